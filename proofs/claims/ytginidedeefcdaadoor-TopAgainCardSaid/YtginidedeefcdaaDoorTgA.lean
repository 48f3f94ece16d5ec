/-
  TopAgain, WALKED.
-/
import Derived.Test.YtginidedeefcdaaDoorTgB
import Derived.Test.YtginidedeefcdaaDoorFtE
import Derived.Test.YtginidedeefcdaaDoorFtA
import Derived.Test.YtginidedeefcdaaDoorFtK
namespace Go.Proofs.YtginidedeefcdaaDoor.Ft
open Go.ChangeShapes Go.WideShapes Go.ChangeAt Go.RowKit
open Go.Proofs.YtginidedeefcdaaDoor
open Go.Proofs.YtginidedeefcdaaDoor.Wd
open Go.Proofs.YtginidedeefcdaaDoor.Rec
open Go.Proofs.YtginidedeefcdaaDoor.Yr
open Go.Proofs.YtginidedeefcdaaDoor.Tb
open Go.Proofs.YtginidedeefcdaaDoor.Civ (Tab Inv)
set_option linter.unusedVariables false
set_option linter.unusedSimpArgs false
set_option maxRecDepth 100000 in
set_option maxHeartbeats 6400000 in
theorem again_long (A : Option Addr) (n cp : Nat) (l : List Sp) (Y : Int) (o : Rc) (w : World) (hT : Tab w) (hs : Spans w w.heap.size A n l) (hm : n ≤ maxLen) (hn : (60 : Int) < (n : Int)) :
    Calls Tryd.prog 10 #[.slice A n cp, .int .i64 Y, o.V] w fun e w' => e = .returned (.bool true) ∧ Below w.heap.size w w' := by
  have i0 := Inv.start hT
  unfold maxLen at hm
  go_enter Tryd.func10, Tryd.ntmps10
  go_wp2_with fail
  have o_1 := (Wd.Blk.new w 28 (rcA o.b o.c o.d o.p o.q))
  have inv_1 := (i0.alloc (.cells (rcA o.b o.c o.d o.p o.q) 28))
  refine (begins13_any _ inv_1.1).mono ?_; rintro e w_1 ⟨rfl, hb_1⟩
  have oc_1 := o_1.below hb_1 o_1.lt
  have invc_1 := inv_1.call hb_1
  clear o_1 inv_1 hb_1
  go_wp2_with fail
  go_ret
  exact ⟨rfl, invc_1.2⟩
set_option maxRecDepth 100000 in
set_option maxHeartbeats 6400000 in
theorem again_err (A : Option Addr) (n cp : Nat) (l : List Sp) (Y : Int) (o : Rc) (w : World) (hT : Tab w) (hs : Spans w w.heap.size A n l) (hm : n ≤ maxLen) (hn : ¬ (60 : Int) < (n : Int)) (E : Int) 
    (r : Rc) (hfy : ∀ w, Tab w → Spans w w.heap.size A n l → Calls Tryd.prog 13 #[.slice A n cp, .int .i64 Y] w fun e w' => e = .returned (.tuple #[r.V, .int .u8 0, .int .i64 E]) ∧ Below w.heap.size w w')
    (hE : E ≠ 0) (hr0 : r = ⟨0, 0, 0, St.nil, St.nil⟩) :
    Calls Tryd.prog 10 #[.slice A n cp, .int .i64 Y, o.V] w fun e w' => e = .returned (.bool true) ∧ Below w.heap.size w w' := by
  have i0 := Inv.start hT
  unfold maxLen at hm
  have hEb : (E != 0) = true := by rw [bne_iff_ne]; exact hE
  subst hr0
  have hq : ∀ w, (binOp .eql 28 (.agg (rcA 0 0 0 St.nil St.nil)) (.agg #[.int .i32 (0), .int .i32 (0), .int .i32 (0), .int .u16 0, .int .u16 0, .int .u16 0, .int .u16 0, .int .u16 0, .int .u16 0, .int .u16 0, .int .u16 0, .int .u16 0, .int .u16 0, .int .u16 0, .int .u16 0, .int .u16 0, .int .u16 0, .int .u16 0, .int .u16 0])).run Tryd.prog w = .ok (.bool true) w := fun w => (eq_rc 0 0 0 0 0 0 St.nil St.nil St.nil St.nil w).trans (by rw [show eqR 0 0 0 St.nil St.nil 0 0 0 St.nil St.nil = true by decide])
  go_enter Tryd.func10, Tryd.ntmps10
  go_wp2_with fail
  have o_1 := (Wd.Blk.new w 28 (rcA o.b o.c o.d o.p o.q))
  have inv_1 := (i0.alloc (.cells (rcA o.b o.c o.d o.p o.q) 28))
  refine (begins13_any _ inv_1.1).mono ?_; rintro e w_1 ⟨rfl, hb_1⟩
  have oc_1 := o_1.below hb_1 o_1.lt
  have invc_1 := inv_1.call hb_1
  clear o_1 inv_1 hb_1
  go_wp2_with fail
  have sp1 := (hs.below invc_1.2).more invc_1.2.size
  refine (hfy _ invc_1.1 sp1).mono ?_; rintro e w_y ⟨rfl, hby⟩
  have iy := invc_1.call hby; have oy := oc_1.below hby oc_1.lt; clear sp1 hby invc_1 oc_1
  go_wp2_with (first | refine wpList_store_new rfl 28 _ _ rfl rfl w_y.heap.size (rcA 0 0 0 St.nil St.nil) rfl rfl _ #[.int .i32 0, .int .i32 0, .int .i32 0, .int .u16 0, .int .u16 0, .int .u16 0, .int .u16 0, .int .u16 0, .int .u16 0, .int .u16 0, .int .u16 0, .int .u16 0, .int .u16 0, .int .u16 0, .int .u16 0, .int .u16 0, .int .u16 0, .int .u16 0, .int .u16 0] w_y rfl rfl rfl (by kernel_rfl) (by kernel_rfl) ?_ | refine wpList_row_g rfl 28 _ rfl _ rfl _ _ _ _ (Wd.Blk.new w_y 28 (rcA 0 0 0 St.nil St.nil)) Tryd.underlying28 rfl (by kernel_rfl) ?_)
  go_ret
  exact ⟨rfl, (iy.alloc (.cells (rcA 0 0 0 St.nil St.nil) 28)).2⟩
set_option maxRecDepth 100000 in
set_option maxHeartbeats 6400000 in
theorem again_why (A : Option Addr) (n cp : Nat) (l : List Sp) (Y : Int) (o : Rc) (w : World) (hT : Tab w) (hs : Spans w w.heap.size A n l) (hm : n ≤ maxLen) (hn : ¬ (60 : Int) < (n : Int)) (y : Int) 
    (r : Rc) (hfy : ∀ w, Tab w → Spans w w.heap.size A n l → Calls Tryd.prog 13 #[.slice A n cp, .int .i64 Y] w fun e w' => e = .returned (.tuple #[r.V, .int .u8 y, .int .i64 0]) ∧ Below w.heap.size w w')
    (hy : y ≠ 0) (hr0 : r = ⟨0, 0, 0, St.nil, St.nil⟩) :
    Calls Tryd.prog 10 #[.slice A n cp, .int .i64 Y, o.V] w fun e w' => e = .returned (.bool true) ∧ Below w.heap.size w w' := by
  have i0 := Inv.start hT
  unfold maxLen at hm
  have hyb : (y != 0) = true := by rw [bne_iff_ne]; exact hy
  subst hr0
  have hq : ∀ w, (binOp .eql 28 (.agg (rcA 0 0 0 St.nil St.nil)) (.agg #[.int .i32 (0), .int .i32 (0), .int .i32 (0), .int .u16 0, .int .u16 0, .int .u16 0, .int .u16 0, .int .u16 0, .int .u16 0, .int .u16 0, .int .u16 0, .int .u16 0, .int .u16 0, .int .u16 0, .int .u16 0, .int .u16 0, .int .u16 0, .int .u16 0, .int .u16 0])).run Tryd.prog w = .ok (.bool true) w := fun w => (eq_rc 0 0 0 0 0 0 St.nil St.nil St.nil St.nil w).trans (by rw [show eqR 0 0 0 St.nil St.nil 0 0 0 St.nil St.nil = true by decide])
  go_enter Tryd.func10, Tryd.ntmps10
  go_wp2_with fail
  have o_1 := (Wd.Blk.new w 28 (rcA o.b o.c o.d o.p o.q))
  have inv_1 := (i0.alloc (.cells (rcA o.b o.c o.d o.p o.q) 28))
  refine (begins13_any _ inv_1.1).mono ?_; rintro e w_1 ⟨rfl, hb_1⟩
  have oc_1 := o_1.below hb_1 o_1.lt
  have invc_1 := inv_1.call hb_1
  clear o_1 inv_1 hb_1
  go_wp2_with fail
  have sp1 := (hs.below invc_1.2).more invc_1.2.size
  refine (hfy _ invc_1.1 sp1).mono ?_; rintro e w_y ⟨rfl, hby⟩
  have iy := invc_1.call hby; have oy := oc_1.below hby oc_1.lt; clear sp1 hby invc_1 oc_1
  go_wp2_with (first | refine wpList_store_new rfl 28 _ _ rfl rfl w_y.heap.size (rcA 0 0 0 St.nil St.nil) rfl rfl _ #[.int .i32 0, .int .i32 0, .int .i32 0, .int .u16 0, .int .u16 0, .int .u16 0, .int .u16 0, .int .u16 0, .int .u16 0, .int .u16 0, .int .u16 0, .int .u16 0, .int .u16 0, .int .u16 0, .int .u16 0, .int .u16 0, .int .u16 0, .int .u16 0, .int .u16 0] w_y rfl rfl rfl (by kernel_rfl) (by kernel_rfl) ?_ | refine wpList_row_g rfl 28 _ rfl _ rfl _ _ _ _ (Wd.Blk.new w_y 28 (rcA 0 0 0 St.nil St.nil)) Tryd.underlying28 rfl (by kernel_rfl) ?_)
  go_ret
  exact ⟨rfl, (iy.alloc (.cells (rcA 0 0 0 St.nil St.nil) 28)).2⟩
set_option maxRecDepth 100000 in
set_option maxHeartbeats 6400000 in
theorem again_good (A : Option Addr) (n cp : Nat) (l : List Sp) (Y : Int) (o : Rc) (w : World) (hT : Tab w) (hs : Spans w w.heap.size A n l) (hm : n ≤ maxLen) (hn : ¬ (60 : Int) < (n : Int)) (hl3 : l.length ≤ 3)
    (r : Rc) (hfy : ∀ w, Tab w → Spans w w.heap.size A n l → Calls Tryd.prog 13 #[.slice A n cp, .int .i64 Y] w fun e w' => e = .returned (.tuple #[r.V, .int .u8 0, .int .i64 0]) ∧ Below w.heap.size w w')
    (x : Rc) (hx : ∀ w, Tab w → Calls Tryd.prog 36 #[r.V, o.V, .int .i64 Y] w fun e w' => e = .returned x.V ∧ Below w.heap.size w w')
    (hl : spL x Y = l) (hsp : ∀ w, Tab w → Calls Tryd.prog 23 #[x.V, .int .i64 Y] w fun e w' => ∃ g n c, e = .returned (.tuple #[.slice (some ⟨g, 0, none⟩) n c, .int .i64 0]) ∧ n = (spL x Y).length ∧ n ≤ c ∧ Reads w' w'.heap.size 3 (some ⟨g, 0, none⟩) n (flatS (spL x Y)) ∧ w.heap.size ≤ g ∧ Below w.heap.size w w')
    (hfy2 : ∀ w A n c, Tab w → Spans w w.heap.size A n l → n ≤ 3 → n ≤ c → Calls Tryd.prog 13 #[.slice A n c, .int .i64 Y] w fun e w' => e = .returned (.tuple #[r.V, .int .u8 0, .int .i64 0]) ∧ Below w.heap.size w w') :
    Calls Tryd.prog 10 #[.slice A n cp, .int .i64 Y, o.V] w fun e w' => e = .returned (.bool true) ∧ Below w.heap.size w w' := by
  have i0 := Inv.start hT
  unfold maxLen at hm
  have hq : ∀ w, (binOp .eql 28 (.agg (rcA r.b r.c r.d r.p r.q)) (.agg (rcA r.b r.c r.d r.p r.q))).run Tryd.prog w = .ok (.bool true) w := fun w => (eq_rc r.b r.c r.d r.b r.c r.d r.p r.q r.p r.q w).trans (by rw [show eqR r.b r.c r.d r.p r.q r.b r.c r.d r.p r.q = true from eqR_iff.2 ⟨rfl, rfl, rfl, rfl, rfl⟩])
  go_enter Tryd.func10, Tryd.ntmps10
  go_wp2_with fail
  have o_1 := (Wd.Blk.new w 28 (rcA o.b o.c o.d o.p o.q))
  have inv_1 := (i0.alloc (.cells (rcA o.b o.c o.d o.p o.q) 28))
  refine (begins13_any _ inv_1.1).mono ?_; rintro e w_1 ⟨rfl, hb_1⟩
  have oc_1 := o_1.below hb_1 o_1.lt
  have invc_1 := inv_1.call hb_1
  clear o_1 inv_1 hb_1
  go_wp2_with fail
  have sp1 := (hs.below invc_1.2).more invc_1.2.size
  refine (hfy _ invc_1.1 sp1).mono ?_; rintro e w_y ⟨rfl, hby⟩
  have iy := invc_1.call hby; have oy := oc_1.below hby oc_1.lt; clear sp1 hby invc_1 oc_1
  go_wp2_with (first | refine wpList_store_new rfl 28 _ _ rfl rfl w_y.heap.size (rcA r.b r.c r.d r.p r.q) rfl rfl _ #[.int .i32 0, .int .i32 0, .int .i32 0, .int .u16 0, .int .u16 0, .int .u16 0, .int .u16 0, .int .u16 0, .int .u16 0, .int .u16 0, .int .u16 0, .int .u16 0, .int .u16 0, .int .u16 0, .int .u16 0, .int .u16 0, .int .u16 0, .int .u16 0, .int .u16 0] w_y rfl rfl rfl (by kernel_rfl) (by kernel_rfl) ?_ | refine wpList_row_g rfl 28 _ rfl _ rfl _ _ _ _ (Wd.Blk.new w_y 28 (rcA r.b r.c r.d r.p r.q)) Tryd.underlying28 rfl (by kernel_rfl) ?_ | refine wpList_row_g rfl 28 _ rfl _ rfl _ _ _ _ (oy.alloc (.cells (rcA r.b r.c r.d r.p r.q) 28)) Tryd.underlying28 rfl (by kernel_rfl) ?_)
  have o_2 := (oy.alloc (.cells (rcA r.b r.c r.d r.p r.q) 28))
  have r_2 := (Wd.Blk.new w_y 28 (rcA r.b r.c r.d r.p r.q))
  have inv_2 := (iy.alloc (.cells (rcA r.b r.c r.d r.p r.q) 28))
  refine (hx _ inv_2.1).mono ?_; rintro e w_2 ⟨rfl, hb_2⟩
  have oc_2 := o_2.below hb_2 o_2.lt
  have rc_2 := r_2.below hb_2 r_2.lt
  have invc_2 := inv_2.call hb_2
  clear o_2 r_2 inv_2 hb_2
  go_wp2_with (first | refine wpList_store_new rfl 28 _ _ rfl rfl w_2.heap.size (rcA x.b x.c x.d x.p x.q) rfl rfl _ #[.int .i32 0, .int .i32 0, .int .i32 0, .int .u16 0, .int .u16 0, .int .u16 0, .int .u16 0, .int .u16 0, .int .u16 0, .int .u16 0, .int .u16 0, .int .u16 0, .int .u16 0, .int .u16 0, .int .u16 0, .int .u16 0, .int .u16 0, .int .u16 0, .int .u16 0] w_2 rfl rfl rfl (by kernel_rfl) (by kernel_rfl) ?_ | refine wpList_row_g rfl 28 _ rfl _ rfl _ _ _ _ (Wd.Blk.new w_2 28 (rcA x.b x.c x.d x.p x.q)) Tryd.underlying28 rfl (by kernel_rfl) ?_)
  have r_3 := (rc_2.alloc (.cells (rcA x.b x.c x.d x.p x.q) 28))
  have x_3 := (Wd.Blk.new w_2 28 (rcA x.b x.c x.d x.p x.q))
  have inv_3 := (invc_2.alloc (.cells (rcA x.b x.c x.d x.p x.q) 28))
  refine (hsp _ inv_3.1).mono ?_; rintro e w_s ⟨g, n2, c2, rfl, hn2, hnc2, hrd2, hg2, hbs⟩
  rw [hl] at hn2 hrd2
  have r_s := r_3.below hbs r_3.lt; have i_s := inv_3.call hbs
  have sp2 : Spans w_s w_s.heap.size (some ⟨g, 0, none⟩) n2 l := ⟨hn2.symm, hrd2⟩
  have hn3 : n2 ≤ 3 := by rw [hn2]; exact hl3
  have HN := Lib.hid hn2; clear hn2
  clear hrd2 hg2 hbs hl r_3 x_3 inv_3 hfy hx hsp
  go_wp2_with fail
  refine (hfy2 _ (some ⟨g, 0, none⟩) n2 c2 i_s.1 sp2 hn3 hnc2).mono ?_; rintro e w_t ⟨rfl, hbt⟩
  have r_t := r_s.below hbt r_s.lt; have i_t := i_s.call hbt; have sp3 := (sp2.below hbt).more hbt.size
  clear r_s i_s sp2 hbt hfy2
  go_wp2_with (first | refine wpList_store_new rfl 28 _ _ rfl rfl w_t.heap.size (rcA r.b r.c r.d r.p r.q) rfl rfl _ #[.int .i32 0, .int .i32 0, .int .i32 0, .int .u16 0, .int .u16 0, .int .u16 0, .int .u16 0, .int .u16 0, .int .u16 0, .int .u16 0, .int .u16 0, .int .u16 0, .int .u16 0, .int .u16 0, .int .u16 0, .int .u16 0, .int .u16 0, .int .u16 0, .int .u16 0] w_t rfl rfl rfl (by kernel_rfl) (by kernel_rfl) ?_)
  have ba := (Below.refl w_t.heap.size w_t).alloc (Nat.le_refl _) (.cells (rcA r.b r.c r.d r.p r.q) 28)
  have sp4 := (sp3.below ba).more ba.size
  have r_4 := (r_t.alloc (.cells (rcA r.b r.c r.d r.p r.q) 28))
  have z_4 := (Wd.Blk.new w_t 28 (rcA r.b r.c r.d r.p r.q))
  have inv_4 := (i_t.alloc (.cells (rcA r.b r.c r.d r.p r.q) 28))
  have sp0 := (hs.below inv_4.2).more inv_4.2.size
  have hln := hs.1; have hn2 := HN.out
  obtain rfl : n2 = n := by omega
  clear hn2 hln HN
  refine (same_eq A _ n2 cp _ l _ sp0 sp4 (by unfold maxLen; omega)).mono ?_; rintro e w_q ⟨rfl, hbq⟩
  have r_q := r_4.below hbq r_4.lt; have z_q := z_4.below hbq z_4.lt; have i_q := inv_4.call hbq
  go_wp2_with (first | refine wpList_row_g rfl 28 _ rfl _ rfl _ _ _ _ r_q Tryd.underlying28 rfl (by kernel_rfl) ?_ | refine wpList_row_g rfl 28 _ rfl _ rfl _ _ _ _ z_q Tryd.underlying28 rfl (by kernel_rfl) ?_)
  go_ret
  exact ⟨rfl, i_q.2⟩
theorem again_any (A : Option Addr) (n cp : Nat) (l : List Sp) (Y : Int) (o : Rc) (w : World) (hT : Tab w) (Bo : o.Bd) (hs : Spans w w.heap.size A n l) (hm : n ≤ maxLen) (hnc : n ≤ cp) :
    Calls Tryd.prog 10 #[.slice A n cp, .int .i64 Y, o.V] w fun e w' => e = .returned (.bool true) ∧ Below w.heap.size w w' := by
  by_cases hn : (60 : Int) < (n : Int)
  · exact again_long A n cp l Y o w hT hs hm hn
  have hfy := fun w hT hs => year_any A n cp l Y w hT hs hm hnc
  rcases fy_cases l Y with ⟨e, y, r⟩ | ⟨e, y, r⟩ | ⟨e, y, r, g⟩
  · simp only [y, r] at hfy
    exact again_err A n cp l Y o w hT hs hm hn _ _ hfy e rfl
  · simp only [e, r] at hfy
    exact again_why A n cp l Y o w hT hs hm hn _ _ hfy y rfl
  · have ft := g.fit
    have al := @Sh.shRec_alike (fitR l Y) o Y ft.b Bo
    have hl3 := g.len.2
    have hsl : spL (Sh.shRec (fitR l Y) o Y) Y = l := (Sh.spL_alike al).trans ft.sp
    have hk : (Sh.shRec (fitR l Y) o Y).ok = true := al.ok.trans ft.ok
    have hfy2 : ∀ w A n c, Tab w → Spans w w.heap.size A n l → n ≤ 3 → n ≤ c → Calls Tryd.prog 13 #[.slice A n c, .int .i64 Y] w fun e w' => e = .returned (.tuple #[(fitR l Y).V, .int .u8 0, .int .i64 0]) ∧ Below w.heap.size w w' := fun w A n c hT hs h3 hc => by
      have := year_any A n c l Y w hT hs (by unfold maxLen; omega) hc
      rwa [e, y, r] at this
    simp only [e, y, r] at hfy
    exact again_good A n cp l Y o w hT hs hm hn hl3 _ hfy _ (fun w hT => Sh.rec_any _ o Y w hT ft.b Bo) hsl (fun w hT => spans_yes _ Y w hT al.bd hk g.y1 g.y2) hfy2
end Go.Proofs.YtginidedeefcdaaDoor.Ft
