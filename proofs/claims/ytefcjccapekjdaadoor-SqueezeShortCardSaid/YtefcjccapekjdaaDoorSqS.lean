/-
  SqueezeShort: the plain facts together; the walk.
-/
import Derived.Test.YtefcjccapekjdaaDoorSqP
import Derived.Test.YtefcjccapekjdaaDoorSqY
import Derived.Test.YtefcjccapekjdaaDoorSqV
namespace Go.Proofs.YtefcjccapekjdaaDoor.Sq
open Go.ChangeShapes Go.WideShapes Go.ChangeAt Go.RowKit
open Go.Proofs.YtefcjccapekjdaaDoor
open Go.Proofs.YtefcjccapekjdaaDoor.Wd
open Go.Proofs.YtefcjccapekjdaaDoor.Rec
open Go.Proofs.YtefcjccapekjdaaDoor.Yr
open Go.Proofs.YtefcjccapekjdaaDoor.Clk (yrV yrE)
open Go.Proofs.YtefcjccapekjdaaDoor.Civ (Tab Inv)
set_option linter.unusedVariables false
open Go.Proofs.YtefcjccapekjdaaDoor.Tb
open Go.Proofs.YtefcjccapekjdaaDoor.Ld
set_option linter.unusedSimpArgs false
theorem ldMi_sem2 (v : Value) : Instr.loadAt 89 v = ldSem 89 v := rfl
attribute [local go_sem ↓] ldMi_sem2
attribute [local go_sem] ldSem_run
theorem cy_at {P : Int} {l : List Rc} {q : List Int} {k : Nat} (h : plE P l q = 0) (hk : k < l.length) : cyE P l q (P + (k : Int)) = 0 ∧ cyR P l q (P + (k : Int)) = ra_ l k ∧ cyW P l q (P + (k : Int)) = q.getD k 0 := by
  have e : (P + (k : Int) - P).toNat = k := by omega
  rcases cy_cases P l q (P + (k : Int)) with ⟨h0, _⟩ | ⟨_, _, ⟨h1, _⟩ | ⟨_, _, h1, h2, h3⟩⟩
  · rw [h] at h0; simp at h0
  · exact absurd ⟨by omega, by omega⟩ h1
  · rw [e] at h2 h3; exact ⟨h1, h2, h3⟩
/-- what is known of the table that is made -/
structure ShF (P : Int) (l : List Rc) (q : List Int) (F L : Int) (m : Nat) (tt : List Rc) : Prop where
  tb : tbE F L tt = 0
  tl : tlOk F L tt P l q = true
  pk : ∀ k, k < l.length → pkE F L tt (P + (k : Int)) = 0 ∧ pkR F L tt (P + (k : Int)) = ra_ l k
  no : m ≠ 1 → tlOk (F + 1) L (tt.drop 1) P l q = false ∧ tlOk F (L - 1) (tt.take (m - 1)) P l q = false
  f1 : P ≤ F
  f2 : L < P + (l.length : Int)
  f3 : 1 ≤ m ∧ m ≤ l.length
  f4 : F ≤ L ∧ 1601 ≤ P ∧ P + (l.length : Int) ≤ 10000
theorem sh_mk {P : Int} {l : List Rc} {q : List Int} {a b : Nat} (h : plE P l q = 0) (hS : SqT l a b) : ShF P l q (P + (a : Int)) (P + (b : Int)) (b - a + 1) (sub l a b) := by
  have h1 := hS.le; have h2 := hS.lt
  obtain ⟨⟨k1, k2, k3, k4, k5⟩, _, _⟩ := pl_ok h
  refine ⟨sq_tb h hS, sq_tells h hS, fun k hk => sq_pk h hS hk, fun hm => ?_, by omega, by omega, by omega, by omega⟩
  have hne : a ≠ b := fun e => hm (by omega)
  refine ⟨sq_no1 hS hne, ?_⟩
  rw [show b - a + 1 - 1 = b - a by omega]
  exact sq_no2 hS hne
theorem recs_drop1 {w : World} {B g m : Nat} {l : List Rc} (h : Recs w B (some ⟨g, 0, none⟩) (m + 1) l) : Recs w B (some ⟨g, 19, none⟩) m (l.drop 1) := by
  obtain ⟨h1, h2, h3⟩ := h
  cases l with
  | nil => simp at h1
  | cons r t =>
    refine ⟨by simpa using h1, ⟨by rw [flat_len]; simp at h1; show t.length * 19 = _; omega, fun hp => ?_⟩, fun x hx => h3 x (List.mem_cons_of_mem _ hx)⟩
    obtain ⟨ad, e, hb, hc⟩ := h2.2 (by omega)
    obtain rfl := Option.some.inj e
    refine ⟨_, rfl, hb, fun j v hv => ?_⟩
    have := hc (j + 19) v (by
      obtain ⟨L, hL, _, e⟩ := flat_cons r t
      rw [e, List.getElem?_append_right (by omega), hL, show j + 19 - 19 = j by omega]; exact hv)
    have e2 : (⟨g, 0, none⟩ : Addr).add (j + 19) = (⟨g, 19, none⟩ : Addr).add j := by unfold Addr.add; simp [Nat.add_comm]
    rwa [e2] at this
theorem recs_take1 {w : World} {B g m : Nat} {l : List Rc} (h : Recs w B (some ⟨g, 0, none⟩) (m + 1) l) : Recs w B (some ⟨g, 0, none⟩) m (l.take m) := by
  obtain ⟨h1, h2, h3⟩ := h
  refine ⟨by rw [List.length_take]; omega, ⟨by rw [flat_len, List.length_take]; omega, fun hp => ?_⟩, fun x hx => h3 x (List.mem_of_mem_take hx)⟩
  obtain ⟨ad, e, hb, hc⟩ := h2.2 (by omega)
  obtain rfl := Option.some.inj e
  refine ⟨_, rfl, hb, fun j v hv => hc j v ?_⟩
  have hj : j < (flat (l.take m)).length := by
    rcases Nat.lt_or_ge j (flat (l.take m)).length with g | g
    · exact g
    · rw [List.getElem?_eq_none g] at hv; cases hv
  rw [flat_len, List.length_take] at hj
  have q1 := flat_at (l.take m) (j / 19) (j % 19) (by rw [List.length_take]; omega) (Nat.mod_lt _ (by decide))
  have q2 := flat_at l (j / 19) (j % 19) (by omega) (Nat.mod_lt _ (by decide))
  rw [show 19 * (j / 19) + j % 19 = j by omega] at q1 q2
  rw [q1, List.getElem_take] at hv
  rw [q2]; exact hv
theorem Mis.tail {w : World} {B n : Nat} {ad : Addr} {key : ByteArray} {x : Int × Int} {l : List (Int × Int)} (h : Mis w B (some ad) (n + 1) key (x :: l)) : Mis w B (some (ad.add 3)) n key l := by
  obtain ⟨h1, h2, h3⟩ := h
  refine ⟨by simpa using h1, by rw [flatM_len]; simp at h1; omega, fun hp => ?_⟩
  obtain ⟨ad', e, hb, hc⟩ := h3 (by omega)
  obtain rfl := Option.some.inj e
  refine ⟨_, rfl, by rw [block_of_add]; exact hb, fun j v hv => ?_⟩
  rw [add_of_add]
  refine hc _ v ?_
  show ((miA key x).toList ++ flatM key l)[3 + j]? = _
  rw [List.getElem?_append_right (by show 3 ≤ _; omega)]
  show (flatM key l)[3 + j - 3]? = _
  rw [show 3 + j - 3 = j by omega]; exact hv
theorem Mis.tail0 {w : World} {B n : Nat} {A A' : Option Addr} {key : ByteArray} {x : Int × Int} {l : List (Int × Int)} (h : Mis w B A (n + 1) key (x :: l)) (hn : n = 0) : Mis w B A' n key l := by
  obtain ⟨h1, h2, h3⟩ := h
  subst hn
  obtain rfl : l = [] := List.eq_nil_of_length_eq_zero (by simpa using h1)
  exact ⟨rfl, rfl, fun hp => absurd hp (by omega)⟩
theorem ld_hd {w : World} {B n : Nat} {md : Addr} {key : ByteArray} {y z : Int} {l : List (Int × Int)} (h : Mis w B (some md) (n + 1) key ((y, z) :: l)) : ldT 89 (.pointer (some md)) w = some #[.string key, .int .i64 y, .int .u8 z] := by
  obtain ⟨ad, e, r⟩ := h.row (k := 0) (by omega)
  obtain rfl := Option.some.inj e
  have := ld_mi r
  have e0 : md.add (0 * 3) = md := by cases md; unfold Addr.add; split <;> simp_all
  rw [e0] at this; exact this
/-- a list's tail -/
theorem run_tail {w : World} {B n c : Nat} {ad : Addr} {key : ByteArray} {x : Int × Int} {l : List (Int × Int)} (h : Mis w B (some ad) (n + 1) key (x :: l)) (hc : n + 1 ≤ c) :
    ∃ A', (∀ W, (Instr.slice 81 (.slice (some ad) (n + 1) c) (some (.int .i64 1)) none none).run Tryd.prog W = .ok (.slice A' n (c - 1)) W) ∧ ∀ W B', Mis W B' (some ad) (n + 1) key (x :: l) → Mis W B' A' n key l := by
  by_cases e : c = 1
  · refine ⟨some ad, fun W => ?_, fun W B' h' => h'.tail0 (by omega)⟩
    rw [run_slice_l W 81 (some ad) (n + 1) c (by kernel_rfl) .i64 1 (by omega) (by omega)]
    have hs : (sizeOf (Tryd.prog.elem 81)).run Tryd.prog W = .ok 3 W := by kernel_rfl
    rw [hs]
    show Result.ok (sliced (some ad) 1 (n + 1) c 3) W = _
    unfold sliced; rw [if_pos e]; rfl
  · refine ⟨some (ad.add 3), fun W => ?_, fun W B' h' => h'.tail⟩
    rw [run_slice_l W 81 (some ad) (n + 1) c (by kernel_rfl) .i64 1 (by omega) (by omega)]
    have hs : (sizeOf (Tryd.prog.elem 81)).run Tryd.prog W = .ok 3 W := by kernel_rfl
    rw [hs]
    show Result.ok (sliced (some ad) 1 (n + 1) c 3) W = _
    unfold sliced; rw [if_neg e]; rfl
theorem run_t1 (g m : Nat) (W : World) : (Instr.slice 38 (.slice (some ⟨g, 0, none⟩) (m + 1 + 1) (m + 1 + 1)) (some (.int .i64 1)) none none).run Tryd.prog W = .ok (.slice (some ⟨g, 19, none⟩) (m + 1) (m + 1)) W := by
  rw [run_slice_l W 38 (some ⟨g, 0, none⟩) (m + 1 + 1) (m + 1 + 1) (by kernel_rfl) .i64 1 (by omega) (by omega)]
  have hs : (sizeOf (Tryd.prog.elem 38)).run Tryd.prog W = .ok 19 W := by kernel_rfl
  rw [hs]
  show Result.ok (sliced (some ⟨g, 0, none⟩) 1 (m + 1 + 1) (m + 1 + 1) 19) W = _
  unfold sliced; rw [if_neg (by omega)]; rfl
theorem run_t2 (g m : Nat) (W : World) : (Instr.slice 38 (.slice (some ⟨g, 0, none⟩) (m + 1 + 1) (m + 1 + 1)) none (some (.int .i64 ((m : Int) + 1))) none).run Tryd.prog W = .ok (.slice (some ⟨g, 0, none⟩) (m + 1) (m + 1 + 1)) W := by
  rw [run_slice_h W 38 (some ⟨g, 0, none⟩) (m + 1 + 1) (m + 1 + 1) (by kernel_rfl) .i64 ((m : Int) + 1) (by omega) (by omega)]
  have hs : (sizeOf (Tryd.prog.elem 38)).run Tryd.prog W = .ok 19 W := by kernel_rfl
  rw [hs]
  show Result.ok (sliced (some ⟨g, 0, none⟩) 0 ((m : Int) + 1).toNat (m + 1 + 1) 19) W = _
  rw [show ((m : Int) + 1).toNat = m + 1 by omega]
  unfold sliced; rw [if_neg (by omega)]; rfl
set_option maxRecDepth 100000 in
set_option maxHeartbeats 12800000 in
attribute [-go_sem] run_eql_struct run_neq_struct run_slice_l run_slice_h run_slice_any in
theorem short_big (P : Int) (A A2 : Option Addr) (n c n2 c2 : Nat) (l : List Rc) (q : List Int) (key : ByteArray) (w : World) (hT : Tab w) (hp : PlanR w w.heap.size P A A2 n n2 l q) (hnc : n ≤ c) (hbig : (100 : Int) < (n : Int) ∨ (¬ (100 : Int) < (n : Int) ∧ (100 : Int) < (n2 : Int))) :
    Calls Tryd.prog 12 #[plV P A A2 n c n2 c2, .string key] w fun e w' => e = .returned (.bool true) ∧ Below w.heap.size w w' := by
  have i0 := Inv.start hT
  have i1 := i0.alloc (.cells #[.int .i64 P, .slice A n c, .slice A2 n2 c2] 75)
  have x1 := Blk.new w 75 #[.int .i64 P, .slice A n c, .slice A2 n2 c2]
  obtain ⟨hl, hq⟩ := hp.len
  have hpp := hp.p; have hm := hp.m; have hm2 := hp.m2
  unfold maxLen at hm hm2
  rcases hbig with g1 | ⟨g1, g2⟩
  all_goals
    go_enter Tryd.func12, Tryd.ntmps12
    go_wp2_with fail
    refine (lives28_any _ i1.1).mono ?_; rintro e w2 ⟨rfl, hb2⟩
    have i2 := i1.call hb2
    have x2 := x1.below hb2 x1.lt
    clear i1 x1 hb2
    have d1 : w2.cell? ⟨w.heap.size, 1, none⟩ = some (.slice A n c) := x2.cell 1
    have d2 : w2.cell? ⟨w.heap.size, 2, none⟩ = some (.slice A2 n2 c2) := x2.cell 2
    go_wp2_with fail
    go_ret
    exact ⟨rfl, i2.2⟩
set_option maxRecDepth 100000 in
set_option maxHeartbeats 12800000 in
attribute [-go_sem] run_eql_struct run_neq_struct run_slice_l run_slice_h run_slice_any in
theorem short_bad (P : Int) (A A2 : Option Addr) (n c n2 c2 : Nat) (l : List Rc) (q : List Int) (key : ByteArray) (w : World) (hT : Tab w) (hp : PlanR w w.heap.size P A A2 n n2 l q) (hnc : n ≤ c) (g1 : ¬ (100 : Int) < (n : Int)) (g2 : ¬ (100 : Int) < (n2 : Int)) (h0 : plE P l q = 2) :
    Calls Tryd.prog 12 #[plV P A A2 n c n2 c2, .string key] w fun e w' => e = .returned (.bool true) ∧ Below w.heap.size w w' := by
  have i0 := Inv.start hT
  have i1 := i0.alloc (.cells #[.int .i64 P, .slice A n c, .slice A2 n2 c2] 75)
  have x1 := Blk.new w 75 #[.int .i64 P, .slice A n c, .slice A2 n2 c2]
  obtain ⟨hl, hq⟩ := hp.len
  have hpp := hp.p; have hm := hp.m; have hm2 := hp.m2
  unfold maxLen at hm hm2
  have hqt := fun W (iv : Inv w W) => qtable_any P A A2 n c n2 c2 l q W iv.1 ((hp.below iv.2).more iv.2.size) hnc
  have hck := fun W (iv : Inv w W) => check_any P A A2 n c n2 c2 l q W iv.1 ((hp.below iv.2).more iv.2.size)
  have htl := fun W (iv : Inv w W) => tells_any 0 0 none 0 0 [] P A A2 n c n2 c2 l q W iv.1 ⟨rfl, Reads.none_, fun _ h => absurd h (List.not_mem_nil)⟩ (by decide) ((hp.below iv.2).more iv.2.size)
  rw [tl_no h0] at htl
  rw [h0] at hck
  go_enter Tryd.func12, Tryd.ntmps12
  go_wp2_with fail
  refine (lives28_any _ i1.1).mono ?_; rintro e w2 ⟨rfl, hb2⟩
  have i2 := i1.call hb2
  have x2 := x1.below hb2 x1.lt
  clear i1 x1 hb2
  have d1 : w2.cell? ⟨w.heap.size, 1, none⟩ = some (.slice A n c) := x2.cell 1
  have d2 : w2.cell? ⟨w.heap.size, 2, none⟩ = some (.slice A2 n2 c2) := x2.cell 2
  go_wp2_with (refine wpList_row_g rfl 75 _ rfl _ rfl _ _ _ _ x2 Tryd.underlying75 rfl (by kernel_rfl) ?_)
  refine (hqt _ i2).mono ?_; rintro e w3 ⟨⟨_, rfl⟩ | ⟨h9, _⟩, hb3⟩
  rotate_left
  · rw [h0] at h9; simp at h9
  have i3 := (i2.call hb3).alloc (.cells (tbA 0 0 none 0 0) 40)
  have x3 := (x2.below hb3 x2.lt).alloc (.cells (tbA 0 0 none 0 0) 40)
  have t3 := Blk.new w3 40 (tbA 0 0 none 0 0)
  clear i2 x2 hb3 d1 d2 h0 hqt
  go_wp2_with (first | refine wpList_store_new rfl 40 _ _ rfl rfl w3.heap.size (tbA 0 0 none 0 0) rfl rfl _ #[.int .i64 0, .int .i64 0, .slice none 0 0] w3 rfl rfl rfl (by kernel_rfl) (by kernel_rfl) ?_ | refine wpList_row_g rfl 75 _ rfl _ rfl _ _ _ _ x3 Tryd.underlying75 rfl (by kernel_rfl) ?_)
  refine (hck _ i3).mono ?_; rintro e w4 ⟨rfl, hb4⟩
  have i4 := i3.call hb4
  have x4 := x3.below hb4 x3.lt
  have t4 := t3.below hb4 t3.lt
  clear i3 x3 t3 hb4
  go_wp2_with (first | refine wpList_row_g rfl 40 _ rfl _ rfl _ _ _ _ t4 Tryd.underlying40 rfl (by kernel_rfl) ?_ | refine wpList_row_g rfl 75 _ rfl _ rfl _ _ _ _ x4 Tryd.underlying75 rfl (by kernel_rfl) ?_)
  refine (htl _ i4).mono ?_; rintro e w5 ⟨rfl, hb5⟩
  have i5 := i4.call hb5
  go_wp2_with fail
  go_ret
  exact ⟨rfl, i5.2⟩
theorem inv_row {w W : World} {gz : Nat} (hT : Tab w) (h : Inv w W) (hz : w.heap.size ≤ gz) (cs : Array Value) : Inv w (W.setRow gz cs) := by
  have q := below_row h.2 hz cs
  exact ⟨hT.below hT.1 q, q⟩
set_option maxRecDepth 100000 in
set_option maxHeartbeats 12800000 in
attribute [-go_sem] run_eql_struct run_neq_struct run_slice_l run_slice_h run_slice_any in
theorem short_main (P : Int) (A A2 : Option Addr) (n c n2 c2 : Nat) (l : List Rc) (q : List Int) (key : ByteArray) (w : World) (hT : Tab w) (hp : PlanR w w.heap.size P A A2 n n2 l q) (hnc : n ≤ c) (g1 : ¬ (100 : Int) < (n : Int)) (g2 : ¬ (100 : Int) < (n2 : Int)) (h0 : plE P l q = 0) :
    Calls Tryd.prog 12 #[plV P A A2 n c n2 c2, .string key] w fun e w' => e = .returned (.bool true) ∧ Below w.heap.size w w' := by
  have i0 := Inv.start hT
  have i1 := i0.alloc (.cells #[.int .i64 P, .slice A n c, .slice A2 n2 c2] 75)
  have x1 := Blk.new w 75 #[.int .i64 P, .slice A n c, .slice A2 n2 c2]
  obtain ⟨hl, hq⟩ := hp.len
  have hpp := hp.p; have hm := hp.m; have hm2 := hp.m2
  unfold maxLen at hm hm2
  have hqt := fun W (iv : Inv w W) => qtable_any P A A2 n c n2 c2 l q W iv.1 ((hp.below iv.2).more iv.2.size) hnc
  have hck := fun W (iv : Inv w W) => check_any P A A2 n c n2 c2 l q W iv.1 ((hp.below iv.2).more iv.2.size)
  have hms := fun W (iv : Inv w W) => missed_any key P A A2 n c n2 c2 l q W iv.1 ((hp.below iv.2).more iv.2.size) (by omega)
  have hyr := fun y W (iv : Inv w W) => cyear_any P A A2 n c n2 c2 l q y W iv.1 ((hp.below iv.2).more iv.2.size)
  have hcy := Lib.hid (fun k (hk : k < l.length) => cy_at (P := P) (q := q) h0 hk)
  rw [ms_full h0, hl] at hms
  rw [h0] at hck
  go_enter Tryd.func12, Tryd.ntmps12
  go_wp2_with fail
  refine (lives28_any _ i1.1).mono ?_; rintro e w2 ⟨rfl, hb2⟩
  have i2 := i1.call hb2
  have x2 := x1.below hb2 x1.lt
  clear i1 x1 hb2
  have d1 : w2.cell? ⟨w.heap.size, 1, none⟩ = some (.slice A n c) := x2.cell 1
  have d2 : w2.cell? ⟨w.heap.size, 2, none⟩ = some (.slice A2 n2 c2) := x2.cell 2
  go_wp2_with (refine wpList_row_g rfl 75 _ rfl _ rfl _ _ _ _ x2 Tryd.underlying75 rfl (by kernel_rfl) ?_)
  refine (hqt _ i2).mono ?_; rintro e w3 ⟨⟨h9, _⟩ | ⟨_, a, b, g, hS, hR, rfl⟩, hb3⟩
  · rw [h0] at h9; simp at h9
  have hf := sh_mk h0 hS
  clear hS h0 hqt d1 d2
  generalize (P + (a : Int)) = F at *
  generalize (P + (b : Int)) = L at *
  generalize b - a + 1 = m at *
  generalize sub l a b = tt at *
  clear a b
  obtain ⟨htb, htt, hpk, hno, f1, f2, f3, f4⟩ := hf
  have HPK := Lib.hid hpk; have HNO := Lib.hid hno
  clear hpk hno
  rw [hl] at f2 f3 f4
  have T3 := (i2.call hb3).1
  have i3 := (i2.call hb3).alloc (.cells (tbA F L (some ⟨g, 0, none⟩) m m) 40)
  have j3 := (Inv.start T3).alloc (.cells (tbA F L (some ⟨g, 0, none⟩) m m) 40)
  have x3 := (x2.below hb3 x2.lt).alloc (.cells (tbA F L (some ⟨g, 0, none⟩) m m) 40)
  have t3 := Blk.new w3 40 (tbA F L (some ⟨g, 0, none⟩) m m)
  have hz3 : w.heap.size < w3.heap.size := Nat.lt_of_lt_of_le x2.lt hb3.size
  have htc := fun W (jv : Inv w3 W) => Tb.check_any F L (some ⟨g, 0, none⟩) m m w3.heap.size tt W jv.1 (hR.below jv.2) jv.2.size (by unfold maxLen; omega)
  have hte := fun W (iv : Inv w W) (jv : Inv w3 W) => tells_any F L (some ⟨g, 0, none⟩) m m tt P A A2 n c n2 c2 l q W iv.1 ((hR.below jv.2).more jv.2.size) (by unfold maxLen; omega) ((hp.below iv.2).more iv.2.size)
  have hpi := fun y W (jv : Inv w3 W) => pick_any F L (some ⟨g, 0, none⟩) m m w3.heap.size tt y W jv.1 (hR.below jv.2) jv.2.size (by unfold maxLen; omega)
  rw [htb] at htc
  rw [htt] at hte
  clear i2 x2 hb3 htb htt
  go_wp2_with (first | refine wpList_store_new rfl 40 _ _ rfl rfl w3.heap.size (tbA F L (some ⟨g, 0, none⟩) m m) rfl rfl _ #[.int .i64 0, .int .i64 0, .slice none 0 0] w3 rfl rfl rfl (by kernel_rfl) (by kernel_rfl) ?_ | refine wpList_row_g rfl 75 _ rfl _ rfl _ _ _ _ x3 Tryd.underlying75 rfl (by kernel_rfl) ?_)
  refine (hck _ i3).mono ?_; rintro e w4 ⟨rfl, hb4⟩
  have i4 := i3.call hb4
  have j4 := j3.call hb4
  have x4 := x3.below hb4 x3.lt
  have t4 := t3.below hb4 t3.lt
  clear i3 j3 x3 t3 hb4
  go_wp2_with (first | refine wpList_row_g rfl 40 _ rfl _ rfl _ _ _ _ t4 Tryd.underlying40 rfl (by kernel_rfl) ?_ | refine wpList_row_g rfl 75 _ rfl _ rfl _ _ _ _ x4 Tryd.underlying75 rfl (by kernel_rfl) ?_)
  refine (htc _ j4).mono ?_; rintro e w5 ⟨rfl, hb5⟩
  have i5 := i4.call hb5
  have j5 := j4.call hb5
  have x5 := x4.below hb5 x4.lt
  have t5 := t4.below hb5 t4.lt
  clear i4 j4 x4 t4 hb5
  go_wp2_with (first | refine wpList_row_g rfl 40 _ rfl _ rfl _ _ _ _ t5 Tryd.underlying40 rfl (by kernel_rfl) ?_ | refine wpList_row_g rfl 75 _ rfl _ rfl _ _ _ _ x5 Tryd.underlying75 rfl (by kernel_rfl) ?_)
  refine (hte _ i5 j5).mono ?_; rintro e w6 ⟨rfl, hb6⟩
  have i6 := i5.call hb6
  have j6 := j5.call hb6
  have x6 := x5.below hb6 x5.lt
  have t6 := t5.below hb6 t5.lt
  clear i5 j5 x5 t5 hb6
  have a0 : w6.cell? ⟨w3.heap.size, 0, none⟩ = some (.int .i64 F) := t6.cell 0
  have a1 : w6.cell? ⟨w3.heap.size, 1, none⟩ = some (.int .i64 L) := t6.cell 1
  have a2 : w6.cell? ⟨w3.heap.size, 2, none⟩ = some (.slice (some ⟨g, 0, none⟩) m m) := t6.cell 2
  have b0 : w6.cell? ⟨w.heap.size, 0, none⟩ = some (.int .i64 P) := x6.cell 0
  have b1 : w6.cell? ⟨w.heap.size, 1, none⟩ = some (.slice A n c) := x6.cell 1
  have m1 : ¬ (m : Int) < 1 := by omega
  have m2 : ¬ F < P := by omega
  have m3 : ¬ P + (n : Int) ≤ L := by omega
  go_wp2_with (first | refine wpList_row_g rfl 75 _ rfl _ rfl _ _ _ _ x6 Tryd.underlying75 rfl (by kernel_rfl) ?_)
  refine (hms _ i6).mono ?_; rintro e w7 ⟨A7, c7, rfl, hc7, hM7, hb7⟩
  have i7 := i6.call hb7
  have j7 := j6.call hb7
  have x7 := x6.below hb7 x6.lt
  have t7 := t6.below hb7 t6.lt
  clear i6 j6 x6 t6 hb7 a0 a1 a2 b0 b1 m1 m2 m3
  have b1 : w7.cell? ⟨w.heap.size, 1, none⟩ = some (.slice A n c) := x7.cell 1
  go_wp2_with fail
  go_loopw [94, 7] (fun i v wr => ∃ (k : Nat) (A' : Option Addr) (c' : Nat) (r : List (Int × Int)), i = .int .i64 k ∧ k ≤ n ∧ v = .slice A' r.length c' ∧ msK P q n = msK P q k ++ r ∧ r.length ≤ c' ∧ Mis wr wr.heap.size A' r.length key r ∧ Blk wr w.heap.size 75 #[.int .i64 P, .slice A n c, .slice A2 n2 c2] ∧ Blk wr w3.heap.size 40 (tbA F L (some ⟨g, 0, none⟩) m m) ∧ Inv w wr ∧ Inv w3 wr) (fun i _ _ => n - (intOf i).toNat)
  case atStart => exact ⟨0, A7, c7, msK P q n, rfl, Nat.zero_le _, rfl, rfl, hc7, ⟨rfl, hM7⟩, x7, t7, i7, j7⟩
  case round =>
    clear hM7 x7 t7 i7 j7 b1 hms hck htc
    obtain ⟨k, A', c', r, rfl, hk, rfl, hms0, hcr, hM, hx, ht, hi, hj⟩ := hrel
    by_cases hlt : k < n
    · have hlt' : (k : Int) < (n : Int) := by omega
      obtain ⟨ad, rfl, r1⟩ := (hp.r.below hi.2).row hlt (by omega)
      rw [ra_eq (by omega)] at r1
      have hp1 := hpi (P + (k : Int))
      obtain ⟨pk1, pk2⟩ := HPK.out k (by omega)
      rw [pk1, pk2] at hp1
      have hy1 := hyr (P + (k : Int))
      obtain ⟨cy1, cy2, cy3⟩ := hcy.out k (by omega)
      rw [cy1, cy2, cy3] at hy1
      have hnx := ms_next (P := P) (q := q) hlt hms0
      clear pk1 pk2 cy1 cy2 cy3 hyr hpi hms0 hte
      generalize q.getD k 0 = z at *
      generalize ra_ l k = a at *
      have hqq := neq_rcc a a
      rw [eqRc_iff.2 rfl] at hqq
      have hi2 := hi.alloc (.cells a.A 26)
      have hj2 := hj.alloc (.cells a.A 26)
      have hx2 := hx.alloc (.cells a.A 26)
      have ht2 := ht.alloc (.cells a.A 26)
      have hz2 := Blk.new wr 26 a.A
      have hM2 := mis_al hM (.cells a.A 26)
      have hd0 : (wr.alloc (.cells a.A 26)).cell? ⟨w.heap.size, 0, none⟩ = some (.int .i64 P) := hx2.cell 0
      go_wp2_with (first | refine wpList_at_g rfl 26 _ rfl w.heap.size _ a.A rfl _ r1 Tryd.underlying26 rfl (by kernel_rfl) ?_ | refine wpList_store_new rfl 26 _ _ rfl rfl wr.heap.size a.A rfl rfl _ #[.int .i32 0, .int .i32 0, .int .i32 0, .int .u16 0, .int .u16 0, .int .u16 0, .int .u16 0, .int .u16 0, .int .u16 0, .int .u16 0, .int .u16 0, .int .u16 0, .int .u16 0, .int .u16 0, .int .u16 0, .int .u16 0, .int .u16 0, .int .u16 0, .int .u16 0] wr rfl rfl rfl (by kernel_rfl) (by kernel_rfl) ?_ | refine wpList_row_g rfl 40 _ rfl _ rfl _ _ _ _ ht2 Tryd.underlying40 rfl (by kernel_rfl) ?_)
      refine (hp1 _ hj2).mono ?_; rintro e w8 ⟨rfl, hb8⟩
      have i9 := (hi2.call hb8).alloc (.cells a.A 26)
      have j9 := (hj2.call hb8).alloc (.cells a.A 26)
      have x9 := (hx2.below hb8 hx2.lt).alloc (.cells a.A 26)
      have t9 := (ht2.below hb8 ht2.lt).alloc (.cells a.A 26)
      have z9 := (hz2.below hb8 hz2.lt).alloc (.cells a.A 26)
      have u9 := Blk.new w8 26 a.A
      have hM9 := mis_al (mis_ca hM2 hb8) (.cells a.A 26)
      have hd1 : (w8.alloc (.cells a.A 26)).cell? ⟨w.heap.size, 0, none⟩ = some (.int .i64 P) := x9.cell 0
      clear hi2 hj2 hx2 ht2 hz2 hM2 hd0 hb8 hi hj hx ht hM r1 hp1
      go_wp2_with (first | refine wpList_store_new rfl 26 _ _ rfl rfl w8.heap.size a.A rfl rfl _ #[.int .i32 0, .int .i32 0, .int .i32 0, .int .u16 0, .int .u16 0, .int .u16 0, .int .u16 0, .int .u16 0, .int .u16 0, .int .u16 0, .int .u16 0, .int .u16 0, .int .u16 0, .int .u16 0, .int .u16 0, .int .u16 0, .int .u16 0, .int .u16 0, .int .u16 0] w8 rfl rfl rfl (by kernel_rfl) (by kernel_rfl) ?_ | refine wpList_row_g rfl 75 _ rfl _ rfl _ _ _ _ x9 Tryd.underlying75 rfl (by kernel_rfl) ?_)
      refine (hy1 _ i9).mono ?_; rintro e w10 ⟨rfl, hb10⟩
      have i11 := (i9.call hb10).alloc (.cells a.A 26)
      have j11 := (j9.call hb10).alloc (.cells a.A 26)
      have x11 := (x9.below hb10 x9.lt).alloc (.cells a.A 26)
      have t11 := (t9.below hb10 t9.lt).alloc (.cells a.A 26)
      have z11 := (z9.below hb10 z9.lt).alloc (.cells a.A 26)
      have u11 := (u9.below hb10 u9.lt).alloc (.cells a.A 26)
      have hM11 := mis_al (mis_ca hM9 hb10) (.cells a.A 26)
      clear i9 j9 x9 t9 z9 u9 hM9 hd1 hb10 hy1
      generalize wr.heap.size = gz at *
      generalize w8.heap.size = gy at *
      by_cases hz : z = 0
      · have hzb : (z == 0) = true := by simp [hz]
        have hms9 := Lib.hid (hnx.1 hz)
        clear hnx hz
        go_wp2_with (first | refine wpList_store_new rfl 26 _ _ rfl rfl w10.heap.size a.A rfl rfl _ #[.int .i32 0, .int .i32 0, .int .i32 0, .int .u16 0, .int .u16 0, .int .u16 0, .int .u16 0, .int .u16 0, .int .u16 0, .int .u16 0, .int .u16 0, .int .u16 0, .int .u16 0, .int .u16 0, .int .u16 0, .int .u16 0, .int .u16 0, .int .u16 0, .int .u16 0] w10 rfl rfl rfl (by kernel_rfl) (by kernel_rfl) ?_ | refine wpList_row_g rfl 26 _ rfl _ rfl _ _ _ _ u11 Tryd.underlying26 rfl (by kernel_rfl) ?_ | refine wpList_row_g rfl 26 _ rfl _ rfl _ _ _ _ z11 Tryd.underlying26 rfl (by kernel_rfl) ?_)
        go_roundw
        case rel => exact ⟨k + 1, A', c', r, by go_num, by omega, rfl, hms9.out, hcr, hM11, x11, t11, i11, j11⟩
        case measure => simp [intOf]; omega
      · have hzb : (z == 0) = false := by simp [hz]
        obtain ⟨r', rfl, hms9⟩ := hnx.2 hz
        clear hnx hz
        have HMS := Lib.hid hms9
        clear hms9
        rw [List.length_cons] at hM11 hcr
        obtain ⟨md, rfl, -⟩ := hM11.row (k := 0) (by omega)
        obtain ⟨A9, hrt, htail⟩ := run_tail hM11 hcr
        obtain ⟨Rn, hRn⟩ : ∃ Rn, r'.length = Rn := ⟨_, rfl⟩
        rw [hRn] at hM11 hcr hrt htail
        go_upto_region 19 with (first | refine wpList_store_new rfl 26 _ _ rfl rfl w10.heap.size a.A rfl rfl _ #[.int .i32 0, .int .i32 0, .int .i32 0, .int .u16 0, .int .u16 0, .int .u16 0, .int .u16 0, .int .u16 0, .int .u16 0, .int .u16 0, .int .u16 0, .int .u16 0, .int .u16 0, .int .u16 0, .int .u16 0, .int .u16 0, .int .u16 0, .int .u16 0, .int .u16 0] w10 rfl rfl rfl (by kernel_rfl) (by kernel_rfl) ?_ | refine wpList_row_g rfl 26 _ rfl _ rfl _ _ _ _ u11 Tryd.underlying26 rfl (by kernel_rfl) ?_ | refine wpList_row_g rfl 26 _ rfl _ rfl _ _ _ _ z11 Tryd.underlying26 rfl (by kernel_rfl) ?_)
        have x12 := x11.drew; have t12 := t11.drew; have i12 := i11.drew; have j12 := j11.drew
        have hM12 := hM11.below ((Below.refl _ _).drew)
        have hwr : IntKind.i64.wrap (P + (k : Int)) = P + (k : Int) := by simp [IntKind.wrap, IntKind.bits, IntKind.signed]; omega
        have hln : ((Rn : Int) + 1 == 0) = false := by simp; omega
        have hln2 : (((Rn + 1 : Nat) : Int) == 0) = false := by simp; omega
        have hnq : (binOp .neq 89 (.agg #[.string key, .int .i64 (P + (k : Int)), .int .u8 z]) (.agg #[.string key, .int .i64 (P + (k : Int)), .int .u8 z])).run Tryd.prog = fun w => .ok (.bool false) w := by
          have := neq_mi key (P + (k : Int), z) (P + (k : Int), z)
          rwa [eqM_iff.2 rfl] at this
        clear x11 t11 i11 j11 hM11 z11 u11 hqq
        refine wp_region_held_drew (S := fun w' => w'.cell? ⟨w.heap.size, 0, none⟩ = some (.int .i64 P) ∧ ldT 89 (.pointer (some md)) w' = some #[.string key, .int .i64 (P + (k : Int)), .int .u8 z]) (by kernel_rfl) (⟨x12.cell 0, ld_hd hM12⟩) (fun hHeld => ?_)
        refine wpAnyH_take (i := 0) (oi := { dst := some 131, op := Op.move (Operand.tmp 7), type := 81, pos := "law.go:69", after := #[], guard := none }) (v := ?_) rfl (by kernel_rfl) (by kernel_rfl) (by kernel_rfl) (fun _ _ _ h => h) (Or.inl ⟨by rfl, ?_⟩) hHeld ?_
        rotate_left
        · intro w hSw
          try dsimp only at hSw
          go_simp
          try with_reducible rfl
        try simp only [Act.put, List.setIfInBounds_toArray, List.set_cons_zero, List.set_cons_succ]
        refine wpAnyH_take (i := 1) (oi := { dst := some 132, op := Op.call { callee := Callee.builtin Builtin.len, args := #[Operand.tmp 131], argTypes := #[81] }, type := 3, pos := "law.go:69", after := #[{ on := 0, ground := Ground.data }], guard := none }) (v := ?_) rfl (by kernel_rfl) (by kernel_rfl) (by kernel_rfl) (fun _ _ _ h => h) (Or.inl ⟨by rfl, ?_⟩) hHeld ?_
        rotate_left
        · intro w hSw
          try dsimp only at hSw
          go_simp
          try with_reducible rfl
        try simp only [Act.put, List.setIfInBounds_toArray, List.set_cons_zero, List.set_cons_succ]
        refine wpAnyH_take (i := 2) (oi := { dst := some 133, op := Op.binOp BinOp.eql 3 (Operand.tmp 132) (Operand.const (Value.int IntKind.i64 0)) 3, type := 4, pos := "law.go:69", after := #[{ on := 1, ground := Ground.data }], guard := none }) (v := ?_) rfl (by kernel_rfl) (by kernel_rfl) (by kernel_rfl) (fun _ _ _ h => h) (Or.inl ⟨by rfl, ?_⟩) hHeld ?_
        rotate_left
        · intro w hSw
          try dsimp only at hSw
          go_simp
          try with_reducible rfl
        try simp only [Act.put, List.setIfInBounds_toArray, List.set_cons_zero, List.set_cons_succ]
        refine wpAnyH_take (i := 3) (oi := { dst := some 134, op := Op.move (Operand.tmp 133), type := 4, pos := "law.go:69", after := #[{ on := 2, ground := Ground.data }], guard := none }) (v := ?_) rfl (by kernel_rfl) (by kernel_rfl) (by kernel_rfl) (fun _ _ _ h => h) (Or.inl ⟨by rfl, ?_⟩) hHeld ?_
        rotate_left
        · intro w hSw
          try dsimp only at hSw
          go_simp
          try with_reducible rfl
        try simp only [Act.put, List.setIfInBounds_toArray, List.set_cons_zero, List.set_cons_succ]
        refine wpAnyH_take (i := 4) (oi := { dst := some 135, op := Op.move (Operand.tmp 7), type := 81, pos := "law.go:69", after := #[{ on := 3, ground := Ground.guard }], guard := some (3, false) }) (v := ?_) rfl (by kernel_rfl) (by kernel_rfl) (by kernel_rfl) (fun _ _ _ h => h) (Or.inl ⟨by rfl, ?_⟩) hHeld ?_
        rotate_left
        · intro w hSw
          try dsimp only at hSw
          go_simp
          try with_reducible rfl
        try simp only [Act.put, List.setIfInBounds_toArray, List.set_cons_zero, List.set_cons_succ]
        refine wpAnyH_take (i := 5) (oi := { dst := some 136, op := Op.indexAddr 81 (Operand.tmp 135) (Operand.const (Value.int IntKind.i64 0)), type := 0, pos := "law.go:69", after := #[{ on := 4, ground := Ground.data }, { on := 3, ground := Ground.guard }], guard := some (3, false) }) (v := ?_) rfl (by kernel_rfl) (by kernel_rfl) (by kernel_rfl) (fun _ _ _ h => h) (Or.inl ⟨by rfl, ?_⟩) hHeld ?_
        rotate_left
        · intro w hSw
          try dsimp only at hSw
          go_simp
          try with_reducible rfl
        try simp only [Act.put, List.setIfInBounds_toArray, List.set_cons_zero, List.set_cons_succ]
        refine wpAnyH_take (i := 6) (oi := { dst := some 137, op := Op.load 89 (Operand.tmp 136), type := 89, pos := "law.go:69", after := #[{ on := 5, ground := Ground.data }, { on := 3, ground := Ground.guard }], guard := some (3, false) }) (v := ?_) rfl (by kernel_rfl) (by kernel_rfl) (by kernel_rfl) (fun _ _ _ h => h) (Or.inl ⟨by rfl, ?_⟩) hHeld ?_
        rotate_left
        · intro w hSw
          try dsimp only at hSw
          go_simp
          try with_reducible rfl
        try simp only [Act.put, List.setIfInBounds_toArray, List.set_cons_zero, List.set_cons_succ]
        refine wpAnyH_take (i := 7) (oi := { dst := some 138, op := Op.move (Operand.tmp 1), type := 9, pos := "law.go:69", after := #[{ on := 3, ground := Ground.guard }], guard := some (3, false) }) (v := ?_) rfl (by kernel_rfl) (by kernel_rfl) (by kernel_rfl) (fun _ _ _ h => h) (Or.inl ⟨by rfl, ?_⟩) hHeld ?_
        rotate_left
        · intro w hSw
          try dsimp only at hSw
          go_simp
          try with_reducible rfl
        try simp only [Act.put, List.setIfInBounds_toArray, List.set_cons_zero, List.set_cons_succ]
        refine wpAnyH_take (i := 8) (oi := { dst := some 139, op := Op.fieldAddr 75 (Operand.tmp 2) 0, type := 0, pos := "law.go:69", after := #[{ on := 3, ground := Ground.guard }], guard := some (3, false) }) (v := ?_) rfl (by kernel_rfl) (by kernel_rfl) (by kernel_rfl) (fun _ _ _ h => h) (Or.inl ⟨by rfl, ?_⟩) hHeld ?_
        rotate_left
        · intro w hSw
          try dsimp only at hSw
          go_simp
          try with_reducible rfl
        try simp only [Act.put, List.setIfInBounds_toArray, List.set_cons_zero, List.set_cons_succ]
        refine wpAnyH_take (i := 9) (oi := { dst := some 140, op := Op.load 3 (Operand.tmp 139), type := 3, pos := "law.go:69", after := #[{ on := 8, ground := Ground.data }, { on := 3, ground := Ground.guard }], guard := some (3, false) }) (v := ?_) rfl (by kernel_rfl) (by kernel_rfl) (by kernel_rfl) (fun _ _ _ h => h) (Or.inl ⟨by rfl, ?_⟩) hHeld ?_
        rotate_left
        · intro w hSw
          try dsimp only at hSw
          go_simp
          try with_reducible rfl
        try simp only [Act.put, List.setIfInBounds_toArray, List.set_cons_zero, List.set_cons_succ]
        refine wpAnyH_take (i := 10) (oi := { dst := some 141, op := Op.move (Operand.tmp 8), type := 3, pos := "law.go:69", after := #[{ on := 3, ground := Ground.guard }], guard := some (3, false) }) (v := ?_) rfl (by kernel_rfl) (by kernel_rfl) (by kernel_rfl) (fun _ _ _ h => h) (Or.inl ⟨by rfl, ?_⟩) hHeld ?_
        rotate_left
        · intro w hSw
          try dsimp only at hSw
          go_simp
          try with_reducible rfl
        try simp only [Act.put, List.setIfInBounds_toArray, List.set_cons_zero, List.set_cons_succ]
        refine wpAnyH_take (i := 11) (oi := { dst := some 142, op := Op.binOp BinOp.add 3 (Operand.tmp 140) (Operand.tmp 141) 3, type := 3, pos := "law.go:69", after := #[{ on := 9, ground := Ground.data }, { on := 10, ground := Ground.data }, { on := 3, ground := Ground.guard }], guard := some (3, false) }) (v := ?_) rfl (by kernel_rfl) (by kernel_rfl) (by kernel_rfl) (fun _ _ _ h => h) (Or.inl ⟨by rfl, ?_⟩) hHeld ?_
        rotate_left
        · intro w hSw
          try dsimp only at hSw
          go_simp
          try with_reducible rfl
        try simp only [Act.put, List.setIfInBounds_toArray, List.set_cons_zero, List.set_cons_succ]
        refine wpAnyH_take (i := 12) (oi := { dst := some 143, op := Op.move (Operand.tmp 13), type := 85, pos := "law.go:69", after := #[{ on := 3, ground := Ground.guard }], guard := some (3, false) }) (v := ?_) rfl (by kernel_rfl) (by kernel_rfl) (by kernel_rfl) (fun _ _ _ h => h) (Or.inl ⟨by rfl, ?_⟩) hHeld ?_
        rotate_left
        · intro w hSw
          try dsimp only at hSw
          go_simp
          try with_reducible rfl
        try simp only [Act.put, List.setIfInBounds_toArray, List.set_cons_zero, List.set_cons_succ]
        refine wpAnyH_take (i := 13) (oi := { dst := some 144, op := Op.build 89 #[(0, Operand.tmp 138), (1, Operand.tmp 142), (2, Operand.tmp 143)], type := 89, pos := "law.go:69", after := #[{ on := 7, ground := Ground.data }, { on := 11, ground := Ground.data }, { on := 12, ground := Ground.data }, { on := 3, ground := Ground.guard }], guard := some (3, false) }) (v := ?_) rfl (by kernel_rfl) (by kernel_rfl) (by kernel_rfl) (fun _ _ _ h => h) (Or.inl ⟨by rfl, ?_⟩) hHeld ?_
        rotate_left
        · intro w hSw
          try dsimp only at hSw
          go_simp
          try with_reducible rfl
        try simp only [Act.put, List.setIfInBounds_toArray, List.set_cons_zero, List.set_cons_succ]
        refine wpAnyH_take (i := 14) (oi := { dst := some 145, op := Op.binOp BinOp.neq 89 (Operand.tmp 137) (Operand.tmp 144) 89, type := 4, pos := "law.go:69", after := #[{ on := 6, ground := Ground.data }, { on := 13, ground := Ground.data }, { on := 3, ground := Ground.guard }], guard := some (3, false) }) (v := ?_) rfl (by kernel_rfl) (by kernel_rfl) (by kernel_rfl) (fun _ _ _ h => h) (Or.inl ⟨by rfl, ?_⟩) hHeld ?_
        rotate_left
        · intro w hSw
          try dsimp only at hSw
          go_simp
          try with_reducible rfl
        try simp only [Act.put, List.setIfInBounds_toArray, List.set_cons_zero, List.set_cons_succ]
        refine wpAnyH_take (i := 15) (oi := { dst := some 146, op := Op.pick (Operand.tmp 134) (Operand.const (Value.bool true)) (Operand.tmp 145), type := 4, pos := "law.go:69", after := #[{ on := 3, ground := Ground.data }, { on := 14, ground := Ground.data }], guard := none }) (v := ?_) rfl (by kernel_rfl) (by kernel_rfl) (by kernel_rfl) (fun _ _ _ h => h) (Or.inl ⟨by rfl, ?_⟩) hHeld ?_
        rotate_left
        · intro w hSw
          try dsimp only at hSw
          go_simp
          try with_reducible rfl
        try simp only [Act.put, List.setIfInBounds_toArray, List.set_cons_zero, List.set_cons_succ]
        refine wpAnyH_done (by kernel_rfl) ?_ _
        clear hHeld
        go_wp2_with fail
        go_roundw
        case rel => exact ⟨k + 1, A9, c' - 1, r', by go_num, by omega, by rw [hRn], HMS.out, by rw [hRn]; omega, by rw [hRn]; exact htail _ _ hM12, x12, t12, i12, j12⟩
        case measure => simp [intOf]; omega
    · obtain rfl : k = n := by omega
      have hlt' : ¬ (k : Int) < (k : Int) := by omega
      have hr0 : r = [] := by
        have := congrArg List.length hms0
        rw [List.length_append] at this
        exact List.eq_nil_of_length_eq_zero (by omega)
      subst hr0
      have c2' : wr.cell? ⟨w3.heap.size, 2, none⟩ = some (.slice (some ⟨g, 0, none⟩) m m) := ht.cell 2
      clear hms0 hM hyr hpi
      by_cases hm1 : m = 1
      · have hmb : ((m : Int) == 1) = true := by simp [hm1]
        clear hm1
        go_wp2_with fail
        go_ret
        exact ⟨rfl, hi.2⟩
      · have hmb : ((m : Int) == 1) = false := by simp; omega
        obtain ⟨q1, q2⟩ := HNO.out hm1
        obtain ⟨mq, rfl⟩ : ∃ mq, m = mq + 1 + 1 := ⟨m - 2, by omega⟩
        have hte1 := fun W (iv : Inv w W) (jv : Inv w3 W) => tells_any (F + 1) L (some ⟨g, 19, none⟩) (mq + 1) (mq + 1) (tt.drop 1) P A A2 k c n2 c2 l q W iv.1 ((recs_drop1 (hR.below jv.2)).more jv.2.size) (by unfold maxLen; omega) ((hp.below iv.2).more iv.2.size)
        have hte2 := fun W (iv : Inv w W) (jv : Inv w3 W) => tells_any F (L - 1) (some ⟨g, 0, none⟩) (mq + 1) (mq + 1 + 1) (tt.take (mq + 1)) P A A2 k c n2 c2 l q W iv.1 ((recs_take1 (hR.below jv.2)).more jv.2.size) (by unfold maxLen; omega) ((hp.below iv.2).more iv.2.size)
        rw [q1] at hte1
        rw [show mq + 1 + 1 - 1 = mq + 1 from rfl] at q2
        rw [q2] at hte2
        have hs1 := run_t1 g mq; have hs2 := run_t2 g mq
        have w1 : IntKind.i64.wrap (F + 1) = F + 1 := by simp [IntKind.wrap, IntKind.bits, IntKind.signed]; omega
        have w2' : IntKind.i64.wrap (L - 1) = L - 1 := by simp [IntKind.wrap, IntKind.bits, IntKind.signed]; omega
        have w3' : IntKind.i64.wrap ((mq : Int) + 1) = (mq : Int) + 1 := by simp [IntKind.wrap, IntKind.bits, IntKind.signed]; omega
        clear q1 q2 hm1 hte HPK HNO
        go_upto_region 28 with fail
        have x14 := hx.drew; have t14 := ht.drew; have i14 := hi.drew; have j14 := hj.drew
        clear hx ht hi hj c2'
        go_cut [16] (fun v wx => ∃ gn : Nat, v = .pointer (some ⟨gn, 0, none⟩) ∧ Blk wx w.heap.size 75 #[.int .i64 P, .slice A k c, .slice A2 n2 c2] ∧ Blk wx w3.heap.size 40 (tbA F L (some ⟨g, 0, none⟩) (mq + 1 + 1) (mq + 1 + 1)) ∧ Inv w wx ∧ Inv w3 wx ∧ Blk wx gn 40 #[.int .i64 (F + 1), .int .i64 L, .slice (some ⟨g, 19, none⟩) (mq + 1) (mq + 1)])
        case first =>
          refine wp_region_held_drew (S := fun w' => w'.cell? ⟨w3.heap.size, 0, none⟩ = some (.int .i64 F) ∧ w'.cell? ⟨w3.heap.size, 1, none⟩ = some (.int .i64 L) ∧ w'.cell? ⟨w3.heap.size, 2, none⟩ = some (.slice (some ⟨g, 0, none⟩) (mq + 1 + 1) (mq + 1 + 1))) (by kernel_rfl) (⟨t14.cell 0, t14.cell 1, t14.cell 2⟩) (fun hHeld => ?_)
          refine wpAnyH_take (i := 0) (oi := { dst := some 158, op := Op.fieldAddr 40 (Operand.tmp 5) 0, type := 0, pos := "law.go:81", after := #[], guard := none }) (v := ?_) rfl (by kernel_rfl) (by kernel_rfl) (by kernel_rfl) (fun _ _ _ h => h) (Or.inl ⟨by rfl, ?_⟩) hHeld ?_
          rotate_left
          · intro w hSw
            try dsimp only at hSw
            go_simp
            try with_reducible rfl
          try simp only [Act.put, List.setIfInBounds_toArray, List.set_cons_zero, List.set_cons_succ]
          refine wpAnyH_take (i := 1) (oi := { dst := some 159, op := Op.load 3 (Operand.tmp 158), type := 3, pos := "law.go:81", after := #[{ on := 0, ground := Ground.data }], guard := none }) (v := ?_) rfl (by kernel_rfl) (by kernel_rfl) (by kernel_rfl) (fun _ _ _ h => h) (Or.inl ⟨by rfl, ?_⟩) hHeld ?_
          rotate_left
          · intro w hSw
            try dsimp only at hSw
            go_simp
            try with_reducible rfl
          try simp only [Act.put, List.setIfInBounds_toArray, List.set_cons_zero, List.set_cons_succ]
          refine wpAnyH_take (i := 2) (oi := { dst := some 160, op := Op.binOp BinOp.add 3 (Operand.tmp 159) (Operand.const (Value.int IntKind.i64 1)) 3, type := 3, pos := "law.go:81", after := #[{ on := 1, ground := Ground.data }], guard := none }) (v := ?_) rfl (by kernel_rfl) (by kernel_rfl) (by kernel_rfl) (fun _ _ _ h => h) (Or.inl ⟨by rfl, ?_⟩) hHeld ?_
          rotate_left
          · intro w hSw
            try dsimp only at hSw
            go_simp
            try with_reducible rfl
          try simp only [Act.put, List.setIfInBounds_toArray, List.set_cons_zero, List.set_cons_succ]
          refine wpAnyH_take (i := 3) (oi := { dst := some 161, op := Op.fieldAddr 40 (Operand.tmp 5) 1, type := 0, pos := "law.go:81", after := #[], guard := none }) (v := ?_) rfl (by kernel_rfl) (by kernel_rfl) (by kernel_rfl) (fun _ _ _ h => h) (Or.inl ⟨by rfl, ?_⟩) hHeld ?_
          rotate_left
          · intro w hSw
            try dsimp only at hSw
            go_simp
            try with_reducible rfl
          try simp only [Act.put, List.setIfInBounds_toArray, List.set_cons_zero, List.set_cons_succ]
          refine wpAnyH_take (i := 4) (oi := { dst := some 162, op := Op.load 3 (Operand.tmp 161), type := 3, pos := "law.go:81", after := #[{ on := 3, ground := Ground.data }], guard := none }) (v := ?_) rfl (by kernel_rfl) (by kernel_rfl) (by kernel_rfl) (fun _ _ _ h => h) (Or.inl ⟨by rfl, ?_⟩) hHeld ?_
          rotate_left
          · intro w hSw
            try dsimp only at hSw
            go_simp
            try with_reducible rfl
          try simp only [Act.put, List.setIfInBounds_toArray, List.set_cons_zero, List.set_cons_succ]
          refine wpAnyH_take (i := 5) (oi := { dst := some 163, op := Op.fieldAddr 40 (Operand.tmp 5) 2, type := 0, pos := "law.go:81", after := #[], guard := none }) (v := ?_) rfl (by kernel_rfl) (by kernel_rfl) (by kernel_rfl) (fun _ _ _ h => h) (Or.inl ⟨by rfl, ?_⟩) hHeld ?_
          rotate_left
          · intro w hSw
            try dsimp only at hSw
            go_simp
            try with_reducible rfl
          try simp only [Act.put, List.setIfInBounds_toArray, List.set_cons_zero, List.set_cons_succ]
          refine wpAnyH_take (i := 6) (oi := { dst := some 164, op := Op.load 38 (Operand.tmp 163), type := 38, pos := "law.go:81", after := #[{ on := 5, ground := Ground.data }], guard := none }) (v := ?_) rfl (by kernel_rfl) (by kernel_rfl) (by kernel_rfl) (fun _ _ _ h => h) (Or.inl ⟨by rfl, ?_⟩) hHeld ?_
          rotate_left
          · intro w hSw
            try dsimp only at hSw
            go_simp
            try with_reducible rfl
          try simp only [Act.put, List.setIfInBounds_toArray, List.set_cons_zero, List.set_cons_succ]
          refine wpAnyH_take (i := 7) (oi := { dst := some 165, op := Op.slice 38 (Operand.tmp 164) (some (Operand.const (Value.int IntKind.i64 1))) none none, type := 38, pos := "law.go:81", after := #[{ on := 6, ground := Ground.data }], guard := none }) (v := ?_) rfl (by kernel_rfl) (by kernel_rfl) (by kernel_rfl) (fun _ _ _ h => h) (Or.inl ⟨by rfl, ?_⟩) hHeld ?_
          rotate_left
          · intro w hSw
            try dsimp only at hSw
            go_simp
            try with_reducible rfl
          try simp only [Act.put, List.setIfInBounds_toArray, List.set_cons_zero, List.set_cons_succ]
          refine wpAnyH_take (i := 8) (oi := { dst := some 166, op := Op.build 40 #[(0, Operand.tmp 160), (1, Operand.tmp 162), (2, Operand.tmp 165)], type := 40, pos := "law.go:81", after := #[{ on := 2, ground := Ground.data }, { on := 4, ground := Ground.data }, { on := 7, ground := Ground.data }], guard := none }) (v := ?_) rfl (by kernel_rfl) (by kernel_rfl) (by kernel_rfl) (fun _ _ _ h => h) (Or.inl ⟨by rfl, ?_⟩) hHeld ?_
          rotate_left
          · intro w hSw
            try dsimp only at hSw
            go_simp
            try with_reducible rfl
          try simp only [Act.put, List.setIfInBounds_toArray, List.set_cons_zero, List.set_cons_succ]
          refine wpAnyH_ready (rs := [9]) (by kernel_rfl) (by simp) ?_
          refine AllReadyH.cons (o := { dst := some 16, op := Op.alloc 40, type := 0, pos := "law.go:81", after := #[], guard := none }) rfl (fun K hK => ?_) (AllReadyH.nil)
          go_simp
          have x14a := x14.alloc (.cells #[.int .i64 0, .int .i64 0, .slice none 0 0] 40)
          have t14a := t14.alloc (.cells #[.int .i64 0, .int .i64 0, .slice none 0 0] 40)
          have i14a := i14.alloc (.cells #[.int .i64 0, .int .i64 0, .slice none 0 0] 40)
          have j14a := j14.alloc (.cells #[.int .i64 0, .int .i64 0, .slice none 0 0] 40)
          have new1 := Blk.new (wr.drew) 40 #[.int .i64 0, .int .i64 0, .slice none 0 0]
          refine hK.out _ _ (⟨t14a.cell 0, t14a.cell 1, t14a.cell 2⟩) (fun hHeld2 => ?_)
          clear hK K hHeld; have hHeld := hHeld2; clear hHeld2
          try simp only [Act.put, List.setIfInBounds_toArray, List.set_cons_zero, List.set_cons_succ]
          refine wpAnyH_ready (rs := [10]) (by kernel_rfl) (by simp) ?_
          refine AllReadyH.cons (o := { dst := none, op := Op.store 40 (Operand.tmp 16) (Operand.tmp 166), type := 0, pos := "law.go:81", after := #[{ on := 9, ground := Ground.data }, { on := 8, ground := Ground.data }, { on := 0, ground := Ground.phase }, { on := 1, ground := Ground.phase }, { on := 2, ground := Ground.phase }, { on := 3, ground := Ground.phase }, { on := 4, ground := Ground.phase }, { on := 5, ground := Ground.phase }, { on := 6, ground := Ground.phase }, { on := 7, ground := Ground.phase }, { on := 8, ground := Ground.phase }, { on := 9, ground := Ground.phase }], guard := none }) rfl (fun K hK => ?_) (AllReadyH.nil)
          refine wp_store_g 40 (.tmp 16) (.tmp 166) rfl rfl (wr.drew).heap.size 0 #[.int .i64 (F + 1), .int .i64 L, .slice (some ⟨g, 19, none⟩) (mq + 1) (mq + 1)] #[.int .i64 (F + 1), .int .i64 L, .slice (some ⟨g, 19, none⟩) (mq + 1) (mq + 1)] rfl rfl _ _ new1 (by show 0 + 3 ≤ 3; decide) (by kernel_rfl) (by kernel_rfl) (by kernel_rfl) ?_
          have ok1 := Blk.row new1 #[.int .i64 (F + 1), .int .i64 L, .slice (some ⟨g, 19, none⟩) (mq + 1) (mq + 1)]
          have x14b := Blk.rowFar x14a (Nat.ne_of_lt x14.lt) #[.int .i64 (F + 1), .int .i64 L, .slice (some ⟨g, 19, none⟩) (mq + 1) (mq + 1)]
          have t14b := Blk.rowFar t14a (Nat.ne_of_lt t14.lt) #[.int .i64 (F + 1), .int .i64 L, .slice (some ⟨g, 19, none⟩) (mq + 1) (mq + 1)]
          have i14b := inv_row hT i14a i14.2.size #[.int .i64 (F + 1), .int .i64 L, .slice (some ⟨g, 19, none⟩) (mq + 1) (mq + 1)]
          have j14b := inv_row T3 j14a j14.2.size #[.int .i64 (F + 1), .int .i64 L, .slice (some ⟨g, 19, none⟩) (mq + 1) (mq + 1)]
          refine hK.out _ _ (⟨t14b.cell 0, t14b.cell 1, t14b.cell 2⟩) (fun hHeld2 => ?_)
          clear hK K hHeld; have hHeld := hHeld2; clear hHeld2
          try simp only [Act.put, List.setIfInBounds_toArray, List.set_cons_zero, List.set_cons_succ]
          refine wpAnyH_done (by kernel_rfl) ?_ _
          clear hHeld
          go_wp2_with fail
          go_meet
          exact ⟨_, rfl, x14b, t14b, i14b, j14b, ok1⟩
        case rest =>
        clear x14 t14 i14 j14
        obtain ⟨gn, rfl, x15, t15, i15, j15, u15⟩ := hcut
        obtain ⟨V28, rfl⟩ : ∃ V : World, V = wc := ⟨_, rfl⟩
        go_upto_region 29 with fail
        replace x15 := x15.drew; replace t15 := t15.drew; replace i15 := i15.drew; replace j15 := j15.drew; replace u15 := u15.drew
        go_cut [17] (fun v wx => ∃ go_ : Nat, v = .pointer (some ⟨go_, 0, none⟩) ∧ Blk wx w.heap.size 75 #[.int .i64 P, .slice A k c, .slice A2 n2 c2] ∧ Blk wx w3.heap.size 40 (tbA F L (some ⟨g, 0, none⟩) (mq + 1 + 1) (mq + 1 + 1)) ∧ Inv w wx ∧ Inv w3 wx ∧ Blk wx gn 40 #[.int .i64 (F + 1), .int .i64 L, .slice (some ⟨g, 19, none⟩) (mq + 1) (mq + 1)] ∧ Blk wx go_ 40 #[.int .i64 F, .int .i64 (L - 1), .slice (some ⟨g, 0, none⟩) (mq + 1) (mq + 1 + 1)])
        case first =>
          refine wp_region_held_drew (S := fun w' => w'.cell? ⟨w3.heap.size, 0, none⟩ = some (.int .i64 F) ∧ w'.cell? ⟨w3.heap.size, 1, none⟩ = some (.int .i64 L) ∧ w'.cell? ⟨w3.heap.size, 2, none⟩ = some (.slice (some ⟨g, 0, none⟩) (mq + 1 + 1) (mq + 1 + 1))) (by kernel_rfl) (⟨t15.cell 0, t15.cell 1, t15.cell 2⟩) (fun hHeld => ?_)
          refine wpAnyH_take (i := 0) (oi := { dst := some 167, op := Op.fieldAddr 40 (Operand.tmp 5) 0, type := 0, pos := "law.go:82", after := #[], guard := none }) (v := ?_) rfl (by kernel_rfl) (by kernel_rfl) (by kernel_rfl) (fun _ _ _ h => h) (Or.inl ⟨by rfl, ?_⟩) hHeld ?_
          rotate_left
          · intro w hSw
            try dsimp only at hSw
            go_simp
            try with_reducible rfl
          try simp only [Act.put, List.setIfInBounds_toArray, List.set_cons_zero, List.set_cons_succ]
          refine wpAnyH_take (i := 1) (oi := { dst := some 168, op := Op.load 3 (Operand.tmp 167), type := 3, pos := "law.go:82", after := #[{ on := 0, ground := Ground.data }], guard := none }) (v := ?_) rfl (by kernel_rfl) (by kernel_rfl) (by kernel_rfl) (fun _ _ _ h => h) (Or.inl ⟨by rfl, ?_⟩) hHeld ?_
          rotate_left
          · intro w hSw
            try dsimp only at hSw
            go_simp
            try with_reducible rfl
          try simp only [Act.put, List.setIfInBounds_toArray, List.set_cons_zero, List.set_cons_succ]
          refine wpAnyH_take (i := 2) (oi := { dst := some 169, op := Op.fieldAddr 40 (Operand.tmp 5) 1, type := 0, pos := "law.go:82", after := #[], guard := none }) (v := ?_) rfl (by kernel_rfl) (by kernel_rfl) (by kernel_rfl) (fun _ _ _ h => h) (Or.inl ⟨by rfl, ?_⟩) hHeld ?_
          rotate_left
          · intro w hSw
            try dsimp only at hSw
            go_simp
            try with_reducible rfl
          try simp only [Act.put, List.setIfInBounds_toArray, List.set_cons_zero, List.set_cons_succ]
          refine wpAnyH_take (i := 3) (oi := { dst := some 170, op := Op.load 3 (Operand.tmp 169), type := 3, pos := "law.go:82", after := #[{ on := 2, ground := Ground.data }], guard := none }) (v := ?_) rfl (by kernel_rfl) (by kernel_rfl) (by kernel_rfl) (fun _ _ _ h => h) (Or.inl ⟨by rfl, ?_⟩) hHeld ?_
          rotate_left
          · intro w hSw
            try dsimp only at hSw
            go_simp
            try with_reducible rfl
          try simp only [Act.put, List.setIfInBounds_toArray, List.set_cons_zero, List.set_cons_succ]
          refine wpAnyH_take (i := 4) (oi := { dst := some 171, op := Op.binOp BinOp.sub 3 (Operand.tmp 170) (Operand.const (Value.int IntKind.i64 1)) 3, type := 3, pos := "law.go:82", after := #[{ on := 3, ground := Ground.data }], guard := none }) (v := ?_) rfl (by kernel_rfl) (by kernel_rfl) (by kernel_rfl) (fun _ _ _ h => h) (Or.inl ⟨by rfl, ?_⟩) hHeld ?_
          rotate_left
          · intro w hSw
            try dsimp only at hSw
            go_simp
            try with_reducible rfl
          try simp only [Act.put, List.setIfInBounds_toArray, List.set_cons_zero, List.set_cons_succ]
          refine wpAnyH_take (i := 5) (oi := { dst := some 172, op := Op.fieldAddr 40 (Operand.tmp 5) 2, type := 0, pos := "law.go:82", after := #[], guard := none }) (v := ?_) rfl (by kernel_rfl) (by kernel_rfl) (by kernel_rfl) (fun _ _ _ h => h) (Or.inl ⟨by rfl, ?_⟩) hHeld ?_
          rotate_left
          · intro w hSw
            try dsimp only at hSw
            go_simp
            try with_reducible rfl
          try simp only [Act.put, List.setIfInBounds_toArray, List.set_cons_zero, List.set_cons_succ]
          refine wpAnyH_take (i := 6) (oi := { dst := some 173, op := Op.load 38 (Operand.tmp 172), type := 38, pos := "law.go:82", after := #[{ on := 5, ground := Ground.data }], guard := none }) (v := ?_) rfl (by kernel_rfl) (by kernel_rfl) (by kernel_rfl) (fun _ _ _ h => h) (Or.inl ⟨by rfl, ?_⟩) hHeld ?_
          rotate_left
          · intro w hSw
            try dsimp only at hSw
            go_simp
            try with_reducible rfl
          try simp only [Act.put, List.setIfInBounds_toArray, List.set_cons_zero, List.set_cons_succ]
          refine wpAnyH_take (i := 7) (oi := { dst := some 174, op := Op.move (Operand.tmp 15), type := 3, pos := "law.go:82", after := #[], guard := none }) (v := ?_) rfl (by kernel_rfl) (by kernel_rfl) (by kernel_rfl) (fun _ _ _ h => h) (Or.inl ⟨by rfl, ?_⟩) hHeld ?_
          rotate_left
          · intro w hSw
            try dsimp only at hSw
            go_simp
            try with_reducible rfl
          try simp only [Act.put, List.setIfInBounds_toArray, List.set_cons_zero, List.set_cons_succ]
          refine wpAnyH_take (i := 8) (oi := { dst := some 175, op := Op.binOp BinOp.sub 3 (Operand.tmp 174) (Operand.const (Value.int IntKind.i64 1)) 3, type := 3, pos := "law.go:82", after := #[{ on := 7, ground := Ground.data }], guard := none }) (v := ?_) rfl (by kernel_rfl) (by kernel_rfl) (by kernel_rfl) (fun _ _ _ h => h) (Or.inl ⟨by rfl, ?_⟩) hHeld ?_
          rotate_left
          · intro w hSw
            try dsimp only at hSw
            go_simp
            try with_reducible rfl
          try simp only [Act.put, List.setIfInBounds_toArray, List.set_cons_zero, List.set_cons_succ]
          refine wpAnyH_take (i := 9) (oi := { dst := some 176, op := Op.slice 38 (Operand.tmp 173) none (some (Operand.tmp 175)) none, type := 38, pos := "law.go:82", after := #[{ on := 6, ground := Ground.data }, { on := 8, ground := Ground.data }], guard := none }) (v := ?_) rfl (by kernel_rfl) (by kernel_rfl) (by kernel_rfl) (fun _ _ _ h => h) (Or.inl ⟨by rfl, ?_⟩) hHeld ?_
          rotate_left
          · intro w hSw
            try dsimp only at hSw
            go_simp
            try with_reducible rfl
          try simp only [Act.put, List.setIfInBounds_toArray, List.set_cons_zero, List.set_cons_succ]
          refine wpAnyH_take (i := 10) (oi := { dst := some 177, op := Op.build 40 #[(0, Operand.tmp 168), (1, Operand.tmp 171), (2, Operand.tmp 176)], type := 40, pos := "law.go:82", after := #[{ on := 1, ground := Ground.data }, { on := 4, ground := Ground.data }, { on := 9, ground := Ground.data }], guard := none }) (v := ?_) rfl (by kernel_rfl) (by kernel_rfl) (by kernel_rfl) (fun _ _ _ h => h) (Or.inl ⟨by rfl, ?_⟩) hHeld ?_
          rotate_left
          · intro w hSw
            try dsimp only at hSw
            go_simp
            try with_reducible rfl
          try simp only [Act.put, List.setIfInBounds_toArray, List.set_cons_zero, List.set_cons_succ]
          refine wpAnyH_ready (rs := [11]) (by kernel_rfl) (by simp) ?_
          refine AllReadyH.cons (o := { dst := some 17, op := Op.alloc 40, type := 0, pos := "law.go:82", after := #[], guard := none }) rfl (fun K hK => ?_) (AllReadyH.nil)
          go_simp
          have x15a := x15.alloc (.cells #[.int .i64 0, .int .i64 0, .slice none 0 0] 40)
          have t15a := t15.alloc (.cells #[.int .i64 0, .int .i64 0, .slice none 0 0] 40)
          have i15a := i15.alloc (.cells #[.int .i64 0, .int .i64 0, .slice none 0 0] 40)
          have j15a := j15.alloc (.cells #[.int .i64 0, .int .i64 0, .slice none 0 0] 40)
          have u15a := u15.alloc (.cells #[.int .i64 0, .int .i64 0, .slice none 0 0] 40)
          have new2 := Blk.new (V28.drew) 40 #[.int .i64 0, .int .i64 0, .slice none 0 0]
          refine hK.out _ _ (⟨t15a.cell 0, t15a.cell 1, t15a.cell 2⟩) (fun hHeld2 => ?_)
          clear hK K hHeld; have hHeld := hHeld2; clear hHeld2
          try simp only [Act.put, List.setIfInBounds_toArray, List.set_cons_zero, List.set_cons_succ]
          refine wpAnyH_ready (rs := [12]) (by kernel_rfl) (by simp) ?_
          refine AllReadyH.cons (o := { dst := none, op := Op.store 40 (Operand.tmp 17) (Operand.tmp 177), type := 0, pos := "law.go:82", after := #[{ on := 11, ground := Ground.data }, { on := 10, ground := Ground.data }, { on := 0, ground := Ground.phase }, { on := 1, ground := Ground.phase }, { on := 2, ground := Ground.phase }, { on := 3, ground := Ground.phase }, { on := 4, ground := Ground.phase }, { on := 5, ground := Ground.phase }, { on := 6, ground := Ground.phase }, { on := 7, ground := Ground.phase }, { on := 8, ground := Ground.phase }, { on := 9, ground := Ground.phase }, { on := 10, ground := Ground.phase }, { on := 11, ground := Ground.phase }], guard := none }) rfl (fun K hK => ?_) (AllReadyH.nil)
          refine wp_store_g 40 (.tmp 17) (.tmp 177) rfl rfl (V28.drew).heap.size 0 #[.int .i64 F, .int .i64 (L - 1), .slice (some ⟨g, 0, none⟩) (mq + 1) (mq + 1 + 1)] #[.int .i64 F, .int .i64 (L - 1), .slice (some ⟨g, 0, none⟩) (mq + 1) (mq + 1 + 1)] rfl rfl _ _ new2 (by show 0 + 3 ≤ 3; decide) (by kernel_rfl) (by kernel_rfl) (by kernel_rfl) ?_
          have ok2 := Blk.row new2 #[.int .i64 F, .int .i64 (L - 1), .slice (some ⟨g, 0, none⟩) (mq + 1) (mq + 1 + 1)]
          have x15b := Blk.rowFar x15a (Nat.ne_of_lt x15.lt) #[.int .i64 F, .int .i64 (L - 1), .slice (some ⟨g, 0, none⟩) (mq + 1) (mq + 1 + 1)]
          have t15b := Blk.rowFar t15a (Nat.ne_of_lt t15.lt) #[.int .i64 F, .int .i64 (L - 1), .slice (some ⟨g, 0, none⟩) (mq + 1) (mq + 1 + 1)]
          have i15b := inv_row hT i15a i15.2.size #[.int .i64 F, .int .i64 (L - 1), .slice (some ⟨g, 0, none⟩) (mq + 1) (mq + 1 + 1)]
          have j15b := inv_row T3 j15a j15.2.size #[.int .i64 F, .int .i64 (L - 1), .slice (some ⟨g, 0, none⟩) (mq + 1) (mq + 1 + 1)]
          have u15b := Blk.rowFar u15a (Nat.ne_of_lt u15.lt) #[.int .i64 F, .int .i64 (L - 1), .slice (some ⟨g, 0, none⟩) (mq + 1) (mq + 1 + 1)]
          refine hK.out _ _ (⟨t15b.cell 0, t15b.cell 1, t15b.cell 2⟩) (fun hHeld2 => ?_)
          clear hK K hHeld; have hHeld := hHeld2; clear hHeld2
          try simp only [Act.put, List.setIfInBounds_toArray, List.set_cons_zero, List.set_cons_succ]
          refine wpAnyH_done (by kernel_rfl) ?_ _
          clear hHeld
          go_wp2_with fail
          go_meet
          exact ⟨_, rfl, x15b, t15b, i15b, j15b, u15b, ok2⟩
        case rest =>
        clear x15 t15 i15 j15 u15
        obtain ⟨gb, rfl, x16, t16, i16, j16, u16, y16⟩ := hcut
        obtain ⟨V29, rfl⟩ : ∃ V : World, V = wc := ⟨_, rfl⟩
        go_wp2_with (first | refine wpList_row_g rfl 40 _ rfl _ rfl _ _ _ _ u16 Tryd.underlying40 rfl (by kernel_rfl) ?_ | refine wpList_row_g rfl 75 _ rfl _ rfl _ _ _ _ x16 Tryd.underlying75 rfl (by kernel_rfl) ?_)
        refine (hte1 _ i16 j16).mono ?_; rintro e w17 ⟨rfl, hb17⟩
        have i17 := i16.call hb17
        have j17 := j16.call hb17
        have x17 := x16.below hb17 x16.lt
        have y17 := y16.below hb17 y16.lt
        clear i16 j16 x16 y16 t16 u16 hb17
        go_wp2_with (first | refine wpList_row_g rfl 40 _ rfl _ rfl _ _ _ _ y17 Tryd.underlying40 rfl (by kernel_rfl) ?_ | refine wpList_row_g rfl 75 _ rfl _ rfl _ _ _ _ x17 Tryd.underlying75 rfl (by kernel_rfl) ?_)
        refine (hte2 _ i17 j17).mono ?_; rintro e w18 ⟨rfl, hb18⟩
        have i18 := i17.call hb18
        go_wp2_with fail
        go_ret
        exact ⟨rfl, i18.2⟩
set_option maxRecDepth 100000 in
set_option maxHeartbeats 12800000 in
attribute [-go_sem] run_eql_struct run_neq_struct run_slice_l run_slice_h run_slice_any in
theorem short_any (P : Int) (A A2 : Option Addr) (n c n2 c2 : Nat) (l : List Rc) (q : List Int) (key : ByteArray) (w : World) (hT : Tab w) (hp : PlanR w w.heap.size P A A2 n n2 l q) (hnc : n ≤ c) :
    Calls Tryd.prog 12 #[plV P A A2 n c n2 c2, .string key] w fun e w' => e = .returned (.bool true) ∧ Below w.heap.size w w' := by
  by_cases g1 : (100 : Int) < (n : Int)
  · exact short_big P A A2 n c n2 c2 l q key w hT hp hnc (.inl g1)
  · by_cases g2 : (100 : Int) < (n2 : Int)
    · exact short_big P A A2 n c n2 c2 l q key w hT hp hnc (.inr ⟨g1, g2⟩)
    · rcases pl_01 P l q with h0 | ⟨h0, _⟩
      · exact short_bad P A A2 n c n2 c2 l q key w hT hp hnc g1 g2 h0
      · exact short_main P A A2 n c n2 c2 l q key w hT hp hnc g1 g2 h0
end Go.Proofs.YtefcjccapekjdaaDoor.Sq
