/-
  TableYear, WALKED.
-/
import Derived.Test.YtefcjccapekjdaaDoorTcV
import Derived.Test.YtefcjccapekjdaaDoorTeA
import Derived.Test.YtefcjccapekjdaaDoorTeM
import Derived.Test.YtefcjccapekjdaaDoorCvRO
import Derived.Deep.RegionHeld3
import Derived.Deep.DrawnRows
namespace Go.Proofs.YtefcjccapekjdaaDoor.Tb
open Go.ChangeShapes Go.WideShapes Go.ChangeAt Go.RowKit
open Go.Proofs.YtefcjccapekjdaaDoor
open Go.Proofs.YtefcjccapekjdaaDoor.Wd
open Go.Proofs.YtefcjccapekjdaaDoor.Rec
open Go.Proofs.YtefcjccapekjdaaDoor.Yr
open Go.Proofs.YtefcjccapekjdaaDoor.Clk (yrV yrE)
open Go.Proofs.YtefcjccapekjdaaDoor.Civ (Tab Inv)
set_option linter.unusedVariables false
open Go.Proofs.YtefcjccapekjdaaDoor.Ft (Spans at_ lookat_any sp_tells)
open Go.Proofs.YtefcjccapekjdaaDoor.Ld
set_option linter.unusedSimpArgs false
theorem ldTb_sem (v : Value) : Instr.loadAt 40 v = ldSem 40 v := rfl
theorem ldQ_sem (v : Value) : Instr.loadAt 43 v = ldSem 43 v := rfl
attribute [local go_sem ↓] Go.wp_at_zero Go.wp_at_succ
attribute [local go_sem ↓] ldR_sem
attribute [local go_sem] ldSem_run
theorem rc_info : (Tryd.prog.info? 26).map (fun i => (i.zero, i.size, i.bytes)) = some (some (.agg z19), 19, 44) := by kernel_rfl
theorem flat_app (l m : List Rc) : flat (l ++ m) = flat l ++ flat m := by
  induction l with
  | nil => rfl
  | cons r t ih => show r.A.toList ++ flat (t ++ m) = (r.A.toList ++ flat t) ++ flat m; rw [ih, List.append_assoc]
theorem flat_one (l : List Rc) : ∀ u ∈ flat l, u.oneCell' = true := by
  induction l with
  | nil => intro u hu; cases hu
  | cons r t ih =>
    intro u hu
    have hu' : u ∈ r.A.toList ++ flat t := hu
    rcases List.mem_append.1 hu' with h | h
    · have hall : r.A.all (·.oneCell') = true := by kernel_rfl
      exact (Array.all_eq_true_iff_forall_mem.1 hall) u (by simpa using h)
    · exact ih u h
/-- the last one again -/
abbrev more (l : List Rc) : List Rc := l ++ [ra_ l (l.length - 1)]
theorem more_ok {F L : Int} {l : List Rc} (h : tbOk F L l = true) (hn : l.length ≤ 60) : (tbOk F (L + 1) (more l) = true ∧ L ≠ 9999) ∨ (tbOk F (L + 1) (more l) = false ∧ L = 9999) := by
  obtain ⟨⟨h1, h2, h3, h4, h5⟩, h6, h7⟩ := tb_ok h
  have hlen : (more l).length = l.length + 1 := by simp
  have hmem : ra_ l (l.length - 1) ∈ l := by
    rw [← ra_eq (show l.length - 1 < l.length by omega)]; exact List.getElem_mem _
  have hok : okL (more l) = true := by
    unfold okL at h7 ⊢
    rw [List.all_append, h7]
    simp only [List.all_cons, List.all_nil, Bool.and_true, Bool.true_and]
    exact List.all_eq_true.1 h7 _ hmem
  by_cases hL : L = 9999
  · right
    refine ⟨?_, hL⟩
    unfold tbOk bdT
    rw [decide_eq_false (by omega)]; rfl
  · left
    refine ⟨?_, hL⟩
    unfold tbOk bdT
    rw [hok, hlen, decide_eq_true (by omega), decide_eq_true (by push_cast; omega)]; rfl
theorem more_pick {F L : Int} {l : List Rc} (h : tbOk F L l = true) (y : Int) : pick F (L + 1) (more l) y = pick F L l y := by
  obtain ⟨⟨h1, h2, h3, h4, h5⟩, h6, h7⟩ := tb_ok h
  have hi := idx_bd h y
  have e0 : ∀ k, k < l.length → (more l).getD k Rc.nil = l.getD k Rc.nil := fun k hk => by
    rw [List.getD_eq_getElem?_getD, List.getD_eq_getElem?_getD, List.getElem?_append_left hk]
  have e1 : (more l).getD l.length Rc.nil = l.getD (l.length - 1) Rc.nil := by
    rw [List.getD_eq_getElem?_getD, List.getElem?_append_right (Nat.le_refl _)]
    simp
  unfold pick
  by_cases hy : y ≤ L
  · have e : idx F (L + 1) y = idx F L y := by unfold idx; omega
    rw [e]
    exact e0 _ hi.2.1
  · have a : (idx F (L + 1) y).toNat = l.length := by unfold idx; omega
    have b : (idx F L y).toNat = l.length - 1 := by unfold idx; omega
    rw [a, b]; exact e1
theorem more_at {F L : Int} {l : List Rc} {s : Int} (h : atE F L l s = 0) (hu : tbOk F (L + 1) (more l) = true) : atE F (L + 1) (more l) s = 0 ∧ tOff F (L + 1) (more l) s = tOff F L l s ∧ tSum F (L + 1) (more l) s = tSum F L l s := by
  obtain ⟨h1, h2, h3⟩ := atE_0.1 h
  have hz : atE F (L + 1) (more l) s = 0 := atE_0.2 ⟨hu, h2, h3⟩
  have e : rcAt F (L + 1) (more l) s = rcAt F L l s := more_pick h1 _
  refine ⟨hz, ?_, ?_⟩
  · unfold tOff; rw [if_pos h, if_pos hz, e]
  · unfold tSum; rw [if_pos h, if_pos hz, e]
theorem ty_mk {w W : World} {F L : Int} {ad : Addr} {m c : Nat} {l : List Rc} (hR : Recs w w.heap.size (some ad) (m + 1) l) (iv : Inv w W) (xt : Blk W w.heap.size 40 (tbA F L (some ad) (m + 1) c)) :
    (fun w' => w'.cell? ⟨w.heap.size, 2, none⟩ = some (.slice (some ad) (m + 1) c) ∧ ldT 26 (.pointer (some (ad.add (m * 19)))) w' = some (ra_ l m).A) W := by
  have hl : m < l.length := by have := hR.1; omega
  obtain ⟨ad', e, r⟩ := (hR.below iv.2).row (k := m) (by omega) hl
  obtain rfl := Option.some.inj e
  rw [ra_eq hl] at r
  exact ⟨xt.cell 2, ld_row r (by kernel_rfl)⟩
theorem more_recs {w W : World} {A A' : Option Addr} {m : Nat} {l : List Rc} (hR : Recs w w.heap.size A (m + 1) l) (h : Reads W W.heap.size 19 A' (m + 1 + 1) (flat l ++ flat [ra_ l m])) : Recs W W.heap.size A' (m + 1 + 1) (more l) := by
  have hl := hR.1
  have e : more l = l ++ [ra_ l m] := by unfold more; rw [hl]; rfl
  rw [e]
  refine ⟨by simp [hl], by rw [flat_app]; exact h, fun r hr => ?_⟩
  rcases List.mem_append.1 hr with q | q
  · exact hR.2.2 r q
  · rw [List.mem_singleton.1 q, ← ra_eq (show m < l.length by omega)]; exact hR.bd _
theorem own_setCell {w : World} {base : Nat} {e : TypeId} {size : Nat} {v : Value} {n : Nat} {xs : List Value} (h : w.ownsRow base e size v n xs) (p : Addr) (u : Value) (hne : v.ownBlock ≠ some p.block) : (w.setCell p u).ownsRow base e size v n xs := by
  refine ⟨h.1, ?_⟩
  rcases h.2 with h' | ⟨b, cap, cur, h1, h2, h3, h4⟩
  · exact .inl h'
  · refine .inr ⟨b, cap, cur, h1, h2, ?_, h4⟩
    have hb : b ≠ p.block := fun e => hne (by rw [h1, e]; rfl)
    exact (Below.heap_setCell w p u b hb).trans h3
set_option maxRecDepth 100000 in
set_option maxHeartbeats 12800000 in
attribute [-go_sem] run_eql_struct in
theorem year_long (F L s : Int) (A : Option Addr) (n c : Nat) (l : List Rc) (w : World) (hT : Tab w) (hR : Recs w w.heap.size A n l) (hm : n ≤ maxLen) (hn : ¬ n ≤ 60) :
    Calls Tryd.prog 8 #[tbV F L A n c, .int .i64 s] w fun e w' => e = .returned (.bool true) ∧ Below w.heap.size w w' := by
  have i0 := Inv.start hT
  have hsm := fun w => small_any F L A n c w hm
  simp only [if_neg hn] at hsm
  go_enter Tryd.func8, Tryd.ntmps8
  go_wp2_with fail
  have t_1 := (Wd.Blk.new w 40 (tbA F L A n c))
  have inv_1 := (i0.alloc (.cells (tbA F L A n c) 40))
  refine (lives23_any _ inv_1.1).mono ?_; rintro e w_1 ⟨rfl, hb_1⟩
  have tc_1 := t_1.below hb_1 t_1.lt
  have invc_1 := inv_1.call hb_1
  clear t_1 inv_1 hb_1
  go_wp2_with (first | refine wpList_row_g rfl 40 _ rfl _ rfl _ _ _ _ tc_1 Tryd.underlying40 rfl (by kernel_rfl) ?_)
  have t_2 := tc_1
  have inv_2 := invc_1
  refine (hsm _).mono ?_; rintro e w_2 ⟨rfl, hb_2⟩
  have tc_2 := t_2.below hb_2 t_2.lt
  have invc_2 := inv_2.call hb_2
  clear t_2 inv_2 hb_2
  go_wp2_with fail
  go_ret
  exact ⟨rfl, invc_2.2⟩
set_option maxRecDepth 100000 in
set_option maxHeartbeats 12800000 in
attribute [-go_sem] run_eql_struct in
theorem year_none (F L s E EC o1 yE yV : Int) (d1 : Bool) (A : Option Addr) (n c : Nat) (w : World) (hT : Tab w) (hm : n ≤ maxLen) (hn : n ≤ 60)
    (hat : ∀ W, Inv w W → Calls Tryd.prog 41 #[tbV F L A n c, .int .i64 s] W fun e w' => e = .returned (.tuple #[.agg (stA0 o1 d1), .int .i64 E]) ∧ Below W.heap.size W w')
    (hyr : ∀ W, Calls Tryd.prog 36 #[.int .i64 s] W fun e w' => e = .returned (.tuple #[.int .i64 yV, .int .i64 yE]) ∧ Below W.heap.size W w')
    (hck : ∀ W, Inv w W → Calls Tryd.prog 45 #[tbV F L A n c] W fun e w' => e = .returned (.int .i64 EC) ∧ Below W.heap.size W w')
    (hcase : (E = 2 ∧ EC = 2) ∨ (E = 1 ∧ EC = 0 ∧ ((yE != 0) = true ∨ ((yE != 0) = false ∧ yV < 1601)))) :
    Calls Tryd.prog 8 #[tbV F L A n c, .int .i64 s] w fun e w' => e = .returned (.bool true) ∧ Below w.heap.size w w' := by
  have i0 := Inv.start hT
  have hsm := fun w => small_any F L A n c w hm
  simp only [if_pos hn] at hsm
  go_enter Tryd.func8, Tryd.ntmps8
  go_wp2_with fail
  have t_1 := (Wd.Blk.new w 40 (tbA F L A n c))
  have inv_1 := (i0.alloc (.cells (tbA F L A n c) 40))
  refine (lives23_any _ inv_1.1).mono ?_; rintro e w_1 ⟨rfl, hb_1⟩
  have tc_1 := t_1.below hb_1 t_1.lt
  have invc_1 := inv_1.call hb_1
  clear t_1 inv_1 hb_1
  go_wp2_with (first | refine wpList_row_g rfl 40 _ rfl _ rfl _ _ _ _ tc_1 Tryd.underlying40 rfl (by kernel_rfl) ?_)
  have t_2 := tc_1
  have inv_2 := invc_1
  refine (hsm _).mono ?_; rintro e w_2 ⟨rfl, hb_2⟩
  have tc_2 := t_2.below hb_2 t_2.lt
  have invc_2 := inv_2.call hb_2
  clear t_2 inv_2 hb_2
  go_wp2_with (first | refine wpList_row_g rfl 40 _ rfl _ rfl _ _ _ _ tc_2 Tryd.underlying40 rfl (by kernel_rfl) ?_)
  have t_3 := tc_2
  have inv_3 := invc_2
  refine (hat _ inv_3).mono ?_; rintro e w_3 ⟨rfl, hb_3⟩
  have tc_3 := t_3.below hb_3 t_3.lt
  have invc_3 := inv_3.call hb_3
  clear t_3 inv_3 hb_3
  have t_4 := (tc_3.alloc (.cells (stA0 o1 d1) 43))
  have a_4 := (Wd.Blk.new w_3 43 (stA0 o1 d1))
  have inv_4 := (invc_3.alloc (.cells (stA0 o1 d1) 43))
  go_wp2_with (first | refine wpList_store_new rfl 43 _ _ rfl rfl w_3.heap.size (stA0 o1 d1) rfl rfl _ (stA0 0 false) w_3 rfl rfl rfl (by kernel_rfl) (by kernel_rfl) ?_)
  have t_5 := t_4
  have a_5 := a_4
  have inv_5 := inv_4
  refine (hyr _).mono ?_; rintro e w_5 ⟨rfl, hb_5⟩
  have tc_5 := t_5.below hb_5 t_5.lt
  have ac_5 := a_5.below hb_5 a_5.lt
  have invc_5 := inv_5.call hb_5
  clear t_5 a_5 inv_5 hb_5
  have t_6 := tc_5
  have a_6 := ac_5
  have inv_6 := invc_5
  rcases hcase with ⟨rfl, rfl⟩ | ⟨rfl, rfl, hz⟩
  · go_wp2_with (first | refine wpList_row_g rfl 40 _ rfl _ rfl _ _ _ _ t_6 Tryd.underlying40 rfl (by kernel_rfl) ?_)
    refine (hck _ inv_6).mono ?_; rintro e wz ⟨rfl, hbz⟩
    have iz := inv_6.call hbz
    go_wp2_with fail
    go_ret
    exact ⟨rfl, iz.2⟩
  · rcases hz with hz | ⟨hz, hz2⟩
    · go_wp2_with (first | refine wpList_row_g rfl 40 _ rfl _ rfl _ _ _ _ t_6 Tryd.underlying40 rfl (by kernel_rfl) ?_)
      refine (hck _ inv_6).mono ?_; rintro e wz ⟨rfl, hbz⟩
      have iz := inv_6.call hbz
      go_wp2_with fail
      go_ret
      exact ⟨rfl, iz.2⟩
    · go_wp2_with (first | refine wpList_row_g rfl 40 _ rfl _ rfl _ _ _ _ t_6 Tryd.underlying40 rfl (by kernel_rfl) ?_)
      refine (hck _ inv_6).mono ?_; rintro e wz ⟨rfl, hbz⟩
      have iz := inv_6.call hbz
      go_wp2_with fail
      go_ret
      exact ⟨rfl, iz.2⟩
set_option maxRecDepth 100000 in
set_option maxHeartbeats 12800000 in
attribute [-go_sem] run_eql_struct in
theorem year_main (F L s o1 yV EU : Int) (d1 : Bool) (A : Option Addr) (n c : Nat) (l : List Rc) (w : World) (hT : Tab w) (hR : Recs w w.heap.size A n l) (hm : n ≤ maxLen) (hn : n ≤ 60) (hpos : 1 ≤ n) (hL : -9223372036854775808 ≤ L + 1 ∧ L + 1 ≤ 9223372036854775807)
    (hat : ∀ W, Inv w W → Calls Tryd.prog 41 #[tbV F L A n c, .int .i64 s] W fun e w' => e = .returned (.tuple #[.agg (stA0 o1 d1), .int .i64 0]) ∧ Below W.heap.size W w')
    (hyr : ∀ W, Calls Tryd.prog 36 #[.int .i64 s] W fun e w' => e = .returned (.tuple #[.int .i64 yV, .int .i64 0]) ∧ Below W.heap.size W w')
    (sl : List Sp) (hsp : ∀ W, Inv w W → Calls Tryd.prog 43 #[tbV F L A n c, .int .i64 yV] W fun e w' => ∃ A' n' c', e = .returned (.tuple #[.slice A' n' c', .int .i64 0]) ∧ Spans w' w'.heap.size A' n' sl ∧ Below W.heap.size W w')
    (hlk : ∀ W A' n' c', Spans W W.heap.size A' n' sl → Calls Tryd.prog 50 #[.slice A' n' c', .int .i64 s] W fun e w' => ∃ f1, e = .returned (.tuple #[.agg #[.int .i64 f1, .int .i64 o1, .bool d1], .int .i64 0]) ∧ Below W.heap.size W w')
    (hcu : ∀ W A' c', Tab W → Recs W W.heap.size A' (n + 1) (more l) → Calls Tryd.prog 45 #[tbV F (L + 1) A' (n + 1) c'] W fun e w' => e = .returned (.int .i64 EU) ∧ Below W.heap.size W w')
    (hau : EU = 0 → ∀ W A' c', Tab W → Recs W W.heap.size A' (n + 1) (more l) → Calls Tryd.prog 41 #[tbV F (L + 1) A' (n + 1) c', .int .i64 s] W fun e w' => e = .returned (.tuple #[.agg (stA0 o1 d1), .int .i64 0]) ∧ Below W.heap.size W w')
    (hEU : EU = 0 ∨ (EU = 2 ∧ L = 9999)) :
    Calls Tryd.prog 8 #[tbV F L A n c, .int .i64 s] w fun e w' => e = .returned (.bool true) ∧ Below w.heap.size w w' := by
  have i0 := Inv.start hT
  have hsm := fun w => small_any F L A n c w hm
  simp only [if_pos hn] at hsm
  go_enter Tryd.func8, Tryd.ntmps8
  go_wp2_with fail
  have t_1 := (Wd.Blk.new w 40 (tbA F L A n c))
  have inv_1 := (i0.alloc (.cells (tbA F L A n c) 40))
  refine (lives23_any _ inv_1.1).mono ?_; rintro e w_1 ⟨rfl, hb_1⟩
  have tc_1 := t_1.below hb_1 t_1.lt
  have invc_1 := inv_1.call hb_1
  clear t_1 inv_1 hb_1
  go_wp2_with (first | refine wpList_row_g rfl 40 _ rfl _ rfl _ _ _ _ tc_1 Tryd.underlying40 rfl (by kernel_rfl) ?_)
  have t_2 := tc_1
  have inv_2 := invc_1
  refine (hsm _).mono ?_; rintro e w_2 ⟨rfl, hb_2⟩
  have tc_2 := t_2.below hb_2 t_2.lt
  have invc_2 := inv_2.call hb_2
  clear t_2 inv_2 hb_2
  go_wp2_with (first | refine wpList_row_g rfl 40 _ rfl _ rfl _ _ _ _ tc_2 Tryd.underlying40 rfl (by kernel_rfl) ?_)
  have t_3 := tc_2
  have inv_3 := invc_2
  refine (hat _ inv_3).mono ?_; rintro e w_3 ⟨rfl, hb_3⟩
  have tc_3 := t_3.below hb_3 t_3.lt
  have invc_3 := inv_3.call hb_3
  clear t_3 inv_3 hb_3
  have t_4 := (tc_3.alloc (.cells (stA0 o1 d1) 43))
  have a_4 := (Wd.Blk.new w_3 43 (stA0 o1 d1))
  have inv_4 := (invc_3.alloc (.cells (stA0 o1 d1) 43))
  go_wp2_with (first | refine wpList_store_new rfl 43 _ _ rfl rfl w_3.heap.size (stA0 o1 d1) rfl rfl _ (stA0 0 false) w_3 rfl rfl rfl (by kernel_rfl) (by kernel_rfl) ?_)
  have t_5 := t_4
  have a_5 := a_4
  have inv_5 := inv_4
  refine (hyr _).mono ?_; rintro e w_5 ⟨rfl, hb_5⟩
  have tc_5 := t_5.below hb_5 t_5.lt
  have ac_5 := a_5.below hb_5 a_5.lt
  have invc_5 := inv_5.call hb_5
  clear t_5 a_5 inv_5 hb_5
  go_wp2_with (first | refine wpList_row_g rfl 40 _ rfl _ rfl _ _ _ _ tc_5 Tryd.underlying40 rfl (by kernel_rfl) ?_)
  have t_6 := tc_5
  have a_6 := ac_5
  have inv_6 := invc_5
  refine (hsp _ inv_6).mono ?_; rintro e w_6 ⟨A3, n3, c3, rfl, hS3, hb_6⟩
  have tc_6 := t_6.below hb_6 t_6.lt; clear t_6
  have ac_6 := a_6.below hb_6 a_6.lt; clear a_6
  have invc_6 := inv_6.call hb_6; clear inv_6 hb_6
  go_wp2_with fail
  have t_7 := tc_6
  have a_7 := ac_6
  have inv_7 := invc_6
  refine (hlk _ A3 n3 c3 hS3).mono ?_; rintro e w_7 ⟨f1, rfl, hb_7⟩
  have tc_7 := t_7.below hb_7 t_7.lt; clear t_7
  have ac_7 := a_7.below hb_7 a_7.lt; clear a_7
  have invc_7 := inv_7.call hb_7; clear inv_7 hb_7 hS3
  have tzz := tc_7; have azz := ac_7
  have t_8 := (tc_7.alloc (.cells #[.int .i64 f1, .int .i64 o1, .bool d1] 67))
  have a_8 := (ac_7.alloc (.cells #[.int .i64 f1, .int .i64 o1, .bool d1] 67))
  have z_8 := (Wd.Blk.new w_7 67 #[.int .i64 f1, .int .i64 o1, .bool d1])
  have inv_8 := (invc_7.alloc (.cells #[.int .i64 f1, .int .i64 o1, .bool d1] 67))
  have za0 := a_8.cell 0; have za1 := a_8.cell 1; have zz1 := z_8.cell 1; have zz2 := z_8.cell 2; have zt2 := t_8.cell 2
  simp at za0 za1 zz1 zz2 zt2
  have ho1 : (o1 != o1) = false := by simp
  have hd1 : (d1 != d1) = false := by simp
  have hn0 : ((n : Int) == 0) = false := by simp; omega
  go_upto_region 13 with (first | refine wpList_store_new rfl 67 _ _ rfl rfl w_7.heap.size #[.int .i64 f1, .int .i64 o1, .bool d1] rfl rfl _ #[.int .i64 0, .int .i64 0, .bool false] w_7 rfl rfl rfl (by kernel_rfl) (by kernel_rfl) ?_)
  clear za0 za1 zz1 zz2 zt2 ho1 hd1 hn0
  have t_9 := t_8
  have a_9 := a_8
  have inv_9 := inv_8
  have tprev := t_9
  have t_10 := (t_9.alloc (.cells (tbA F L A n c) 40))
  have a_10 := (a_9.alloc (.cells (tbA F L A n c) 40))
  have u_10 := (blk_at (w_7.alloc (.cells #[.int .i64 f1, .int .i64 o1, .bool d1] 67)) 40 (tbA F L A n c) (sz1 _ _ rfl))
  have inv_10 := (inv_9.alloc (.cells (tbA F L A n c) 40))
  have tlt0 : w.heap.size < w_7.heap.size := tzz.lt; have alt0 : w_3.heap.size < w_7.heap.size := azz.lt
  have hw1 : IntKind.i64.wrap (L + 1) = L + 1 := by obtain ⟨q1, q2⟩ := hL; simp [IntKind.wrap, IntKind.bits, IntKind.signed]; omega
  go_upto_region 14 with (first | refine wpList_row_g rfl 40 _ rfl _ rfl _ _ _ _ tprev Tryd.underlying40 rfl (by kernel_rfl) ?_ | refine wpList_store_new rfl 40 _ _ rfl rfl (w_7.heap.size + 1) (tbA F L A n c) rfl rfl _ #[.int .i64 0, .int .i64 0, .slice none 0 0] (w_7.alloc (.cells #[.int .i64 f1, .int .i64 o1, .bool d1] 67)) rfl (sz1 _ _ rfl).symm rfl (by kernel_rfl) (by kernel_rfl) ?_)
  have zt : w.heap.size < w_7.heap.size := tlt0; have za : w_3.heap.size < w_7.heap.size := alt0
  generalize ((w_7.alloc (.cells #[.int .i64 f1, .int .i64 o1, .bool d1] 67)).alloc (.cells (tbA F L A n c) 40)) = V at *
  generalize hgu : w_7.heap.size + 1 = gu at *
  generalize hga : w_3.heap.size = ga at *
  have ztu : w.heap.size ≠ gu := by omega
  have zau : ga ≠ gu := by omega
  have zwu : w.heap.size ≤ gu := by omega
  clear zt za hgu hga tlt0 alt0
  have cu1 : V.cell? ⟨gu, 1, none⟩ = some (.int .i64 L) := u_10.cell 1
  have fu1 := u_10.frozen 1
  go_upto_region 15 with fail
  have xu : Blk (V.setCell ⟨gu, 1, none⟩ (.int .i64 (L + 1))) gu 40 #[.int .i64 F, .int .i64 (L + 1), .slice A n c] := u_10.set_ 1 _
  have xt := t_10.far (p := ⟨gu, 1, none⟩) ztu (.int .i64 (L + 1))
  have xa := a_10.far (p := ⟨gu, 1, none⟩) zau (.int .i64 (L + 1))
  have iv : Inv w (V.setCell ⟨gu, 1, none⟩ (.int .i64 (L + 1))) := by have q := inv_10.2.setCell (p := ⟨gu, 1, none⟩) zwu (.int .i64 (L + 1)); exact ⟨hT.below hT.1 q, q⟩
  clear u_10 t_10 a_10 inv_10 cu1 fu1 hw1 tprev
  generalize V.setCell ⟨gu, 1, none⟩ (.int .i64 (L + 1)) = W at *
  obtain ⟨m, rfl⟩ : ∃ m, n = m + 1 := ⟨n - 1, by omega⟩
  obtain ⟨ad, rfl, -⟩ := (hR.below iv.2).row (k := m) (by omega) (by have := hR.1; omega)
  have iv : Inv w W.drew := iv.drew
  have xt : Blk W.drew w.heap.size 40 (tbA F L (some ad) (m + 1) c) := xt
  have xa : Blk W.drew ga 43 (stA0 o1 d1) := xa
  have xu : Blk W.drew gu 40 #[.int .i64 F, .int .i64 (L + 1), .slice (some ad) (m + 1) c] := xu
  have i4 : (m : Int) < ((m + 1 : Nat) : Int) := by omega
  have i4b : (m : Int) < (m : Int) + 1 := by omega
  have i5 : IntKind.i64.wrap (m : Int) = (m : Int) := by simp [IntKind.wrap, IntKind.bits, IntKind.signed]; omega
  obtain ⟨i0i, hi0, hz0, hz1, hz2⟩ := info_parts rc_info
  go_cut [] (fun wx => ∃ (A' : Option Addr) (c' : Nat), Inv w wx ∧ Blk wx w.heap.size 40 (tbA F L (some ad) (m + 1) c) ∧ Blk wx ga 43 (stA0 o1 d1) ∧ Blk wx gu 40 (tbA F (L + 1) A' (m + 1 + 1) c') ∧ Recs wx wx.heap.size A' (m + 1 + 1) (more l))
  case first =>
    have hbd : (ra_ l m).Bd := by rw [← ra_eq (show m < l.length by have := hR.1; omega)]; exact hR.bd _
    refine wp_region_held_drew (S := fun w' => w'.cell? ⟨w.heap.size, 2, none⟩ = some (.slice (some ad) (m + 1) c) ∧ ldT 26 (.pointer (some (ad.add (m * 19)))) w' = some (ra_ l m).A) (by kernel_rfl) (ty_mk hR iv xt) (fun hHeld => ?_)
    refine wpAnyH_take (i := 1) (oi := { dst := some 100, op := Op.fieldAddr 40 (Operand.tmp 2) 2, type := 0, pos := "law.go:69", after := #[], guard := none }) (v := ?_) rfl (by kernel_rfl) (by kernel_rfl) (by kernel_rfl) (fun _ _ _ h => h) (Or.inl ⟨by rfl, ?_⟩) hHeld ?_
    rotate_left
    · intro w hSw
      try dsimp only at hSw
      go_simp
      try with_reducible rfl
    try simp only [Act.put, List.setIfInBounds_toArray, List.set_cons_zero, List.set_cons_succ]
    refine wpAnyH_take (i := 2) (oi := { dst := some 101, op := Op.load 38 (Operand.tmp 100), type := 38, pos := "law.go:69", after := #[{ on := 1, ground := Ground.data }], guard := none }) (v := ?_) rfl (by kernel_rfl) (by kernel_rfl) (by kernel_rfl) (fun _ _ _ h => h) (Or.inl ⟨by rfl, ?_⟩) hHeld ?_
    rotate_left
    · intro w hSw
      try dsimp only at hSw
      go_simp
      try with_reducible rfl
    try simp only [Act.put, List.setIfInBounds_toArray, List.set_cons_zero, List.set_cons_succ]
    refine wpAnyH_take (i := 4) (oi := { dst := some 103, op := Op.fieldAddr 40 (Operand.tmp 2) 2, type := 0, pos := "law.go:69", after := #[], guard := none }) (v := ?_) rfl (by kernel_rfl) (by kernel_rfl) (by kernel_rfl) (fun _ _ _ h => h) (Or.inl ⟨by rfl, ?_⟩) hHeld ?_
    rotate_left
    · intro w hSw
      try dsimp only at hSw
      go_simp
      try with_reducible rfl
    try simp only [Act.put, List.setIfInBounds_toArray, List.set_cons_zero, List.set_cons_succ]
    refine wpAnyH_take (i := 5) (oi := { dst := some 104, op := Op.load 38 (Operand.tmp 103), type := 38, pos := "law.go:69", after := #[{ on := 4, ground := Ground.data }], guard := none }) (v := ?_) rfl (by kernel_rfl) (by kernel_rfl) (by kernel_rfl) (fun _ _ _ h => h) (Or.inl ⟨by rfl, ?_⟩) hHeld ?_
    rotate_left
    · intro w hSw
      try dsimp only at hSw
      go_simp
      try with_reducible rfl
    try simp only [Act.put, List.setIfInBounds_toArray, List.set_cons_zero, List.set_cons_succ]
    refine wpAnyH_take (i := 6) (oi := { dst := some 105, op := Op.fieldAddr 40 (Operand.tmp 2) 2, type := 0, pos := "law.go:69", after := #[], guard := none }) (v := ?_) rfl (by kernel_rfl) (by kernel_rfl) (by kernel_rfl) (fun _ _ _ h => h) (Or.inl ⟨by rfl, ?_⟩) hHeld ?_
    rotate_left
    · intro w hSw
      try dsimp only at hSw
      go_simp
      try with_reducible rfl
    try simp only [Act.put, List.setIfInBounds_toArray, List.set_cons_zero, List.set_cons_succ]
    refine wpAnyH_take (i := 7) (oi := { dst := some 106, op := Op.load 38 (Operand.tmp 105), type := 38, pos := "law.go:69", after := #[{ on := 6, ground := Ground.data }], guard := none }) (v := ?_) rfl (by kernel_rfl) (by kernel_rfl) (by kernel_rfl) (fun _ _ _ h => h) (Or.inl ⟨by rfl, ?_⟩) hHeld ?_
    rotate_left
    · intro w hSw
      try dsimp only at hSw
      go_simp
      try with_reducible rfl
    try simp only [Act.put, List.setIfInBounds_toArray, List.set_cons_zero, List.set_cons_succ]
    refine wpAnyH_take (i := 8) (oi := { dst := some 107, op := Op.call { callee := Callee.builtin Builtin.len, args := #[Operand.tmp 106], argTypes := #[38] }, type := 3, pos := "law.go:69", after := #[{ on := 7, ground := Ground.data }], guard := none }) (v := ?_) rfl (by kernel_rfl) (by kernel_rfl) (by kernel_rfl) (fun _ _ _ h => h) (Or.inl ⟨by rfl, ?_⟩) hHeld ?_
    rotate_left
    · intro w hSw
      try dsimp only at hSw
      go_simp
      try with_reducible rfl
    try simp only [Act.put, List.setIfInBounds_toArray, List.set_cons_zero, List.set_cons_succ]
    refine wpAnyH_take (i := 9) (oi := { dst := some 108, op := Op.binOp BinOp.sub 3 (Operand.tmp 107) (Operand.const (Value.int IntKind.i64 1)) 3, type := 3, pos := "law.go:69", after := #[{ on := 8, ground := Ground.data }], guard := none }) (v := ?_) rfl (by kernel_rfl) (by kernel_rfl) (by kernel_rfl) (fun _ _ _ h => h) (Or.inl ⟨by rfl, ?_⟩) hHeld ?_
    rotate_left
    · intro w hSw
      try dsimp only at hSw
      go_simp
      try with_reducible rfl
    try simp only [Act.put, List.setIfInBounds_toArray, List.set_cons_zero, List.set_cons_succ]
    refine wpAnyH_take (i := 10) (oi := { dst := some 109, op := Op.indexAddr 38 (Operand.tmp 104) (Operand.tmp 108), type := 0, pos := "law.go:69", after := #[{ on := 5, ground := Ground.data }, { on := 9, ground := Ground.data }], guard := none }) (v := ?_) rfl (by kernel_rfl) (by kernel_rfl) (by kernel_rfl) (fun _ _ _ h => h) (Or.inl ⟨by rfl, ?_⟩) hHeld ?_
    rotate_left
    · intro w hSw
      try dsimp only at hSw
      go_simp
      try with_reducible rfl
    try simp only [Act.put, List.setIfInBounds_toArray, List.set_cons_zero, List.set_cons_succ]
    refine wpAnyH_take (i := 11) (oi := { dst := some 110, op := Op.load 26 (Operand.tmp 109), type := 26, pos := "law.go:69", after := #[{ on := 10, ground := Ground.data }], guard := none }) (v := ?_) rfl (by kernel_rfl) (by kernel_rfl) (by kernel_rfl) (fun _ _ _ h => h) (Or.inl ⟨by rfl, ?_⟩) hHeld ?_
    rotate_left
    · intro w hSw
      try dsimp only at hSw
      go_simp
      try with_reducible rfl
    try simp only [Act.put, List.setIfInBounds_toArray, List.set_cons_zero, List.set_cons_succ]
    refine wpAnyH_ready (rs := [0, 12]) (by kernel_rfl) (by simp) ?_
    refine AllReadyH.cons (o := { dst := some 99, op := Op.buildSlice 38 0 #[], type := 38, pos := "law.go:69", after := #[], guard := none }) rfl (fun K hK => ?_) (AllReadyH.cons (o := { dst := some 111, op := Op.buildSlice 38 1 #[(0, Operand.tmp 110)], type := 38, pos := "law.go:69", after := #[{ on := 11, ground := Ground.data }], guard := none }) rfl (fun K hK => ?_) (AllReadyH.nil))
    · skip
      go_simp
      have iv_1 := iv.alloc (.cells (#[] : Array Value) 26)
      have xt_1 := xt.alloc (.cells (#[] : Array Value) 26)
      have xa_1 := xa.alloc (.cells (#[] : Array Value) 26)
      have xu_1 := xu.alloc (.cells (#[] : Array Value) 26)
      have own_1 := World.ownsRow_lit (base := w.heap.size) (e := 26) (size := 19) (W.drew) (#[] : Array Value) 0 iv.2.size (by unfold maxLen; omega) rfl
      refine hK.out _ _ (ty_mk hR iv_1 xt_1) (fun hHeld2 => ?_)
      clear hK K hHeld; have hHeld := hHeld2; clear hHeld2
      try simp only [Act.put, List.setIfInBounds_toArray, List.set_cons_zero, List.set_cons_succ]
      refine wpAnyH_ready (rs := [3, 12]) (by kernel_rfl) (by simp) ?_
      refine AllReadyH.cons (o := { dst := some 102, op := Op.call { callee := Callee.builtin Builtin.append, args := #[Operand.tmp 99, Operand.tmp 101], argTypes := #[38, 38] }, type := 38, pos := "law.go:69", after := #[{ on := 0, ground := Ground.data }, { on := 2, ground := Ground.data }], guard := none }) rfl (fun K hK => ?_) (AllReadyH.cons (o := { dst := some 111, op := Op.buildSlice 38 1 #[(0, Operand.tmp 110)], type := 38, pos := "law.go:69", after := #[{ on := 11, ground := Ground.data }], guard := none }) rfl (fun K hK => ?_) (AllReadyH.nil))
      · skip
        refine wp_append_any _ (.tmp 99) (.tmp 101) 38 rfl w.heap.size 26 i0i _ 19 44 Tryd.underlying38 hi0 hz0 hz1 hz2 rfl (by decide) _ 0 _ rfl own_1 _ _ (m + 1) c (flat l) rfl (hR.below iv_1.2).2.1 (flat_one l) (by unfold maxLen; omega) (by omega) (by have := iv_1.2.size; exact this) ?_
        intro v_2 W_2 own_2 hg_2 hat_2
        have iv_2 : Inv w W_2 := by have q := Below.grown iv_1.2 hg_2 iv_1.2.size (fun g hg => (own_lt3 own_1 g hg).1); exact ⟨hT.below hT.1 q, q⟩
        have xt_2 := xt_1.grown hg_2 (fun e => own_blk_ne own_1 xt_1 (by decide) e.symm)
        have xa_2 := xa_1.grown hg_2 (fun e => own_blk_ne own_1 xa_1 (by decide) e.symm)
        have xu_2 := xu_1.grown hg_2 (fun e => own_blk_ne own_1 xu_1 (by decide) e.symm)
        rw [Nat.zero_add] at own_2
        refine hK.out _ _ (ty_mk hR iv_2 xt_2) (fun hHeld2 => ?_)
        clear hK K hHeld; have hHeld := hHeld2; clear hHeld2
        try simp only [Act.put, List.setIfInBounds_toArray, List.set_cons_zero, List.set_cons_succ]
        refine wpAnyH_ready (rs := [12]) (by kernel_rfl) (by simp) ?_
        refine AllReadyH.cons (o := { dst := some 111, op := Op.buildSlice 38 1 #[(0, Operand.tmp 110)], type := 38, pos := "law.go:69", after := #[{ on := 11, ground := Ground.data }], guard := none }) rfl (fun K hK => ?_) (AllReadyH.nil)
        go_simp
        have iv_3 := iv_2.alloc (.cells (ra_ l m).A 26)
        have xt_3 := xt_2.alloc (.cells (ra_ l m).A 26)
        have xa_3 := xa_2.alloc (.cells (ra_ l m).A 26)
        have xu_3 := xu_2.alloc (.cells (ra_ l m).A 26)
        have xb_3 := Blk.new (W_2) 26 (ra_ l m).A
        have own_3 := own_2.alloc (.cells (ra_ l m).A 26)
        refine hK.out _ _ (ty_mk hR iv_3 xt_3) (fun hHeld2 => ?_)
        clear hK K hHeld; have hHeld := hHeld2; clear hHeld2
        try simp only [Act.put, List.setIfInBounds_toArray, List.set_cons_zero, List.set_cons_succ]
        refine wpAnyH_ready (rs := [13]) (by kernel_rfl) (by simp) ?_
        refine AllReadyH.cons (o := { dst := some 112, op := Op.call { callee := Callee.builtin Builtin.append, args := #[Operand.tmp 102, Operand.tmp 111], argTypes := #[38, 38] }, type := 38, pos := "law.go:69", after := #[{ on := 3, ground := Ground.data }, { on := 12, ground := Ground.data }, { on := 3, ground := Ground.chain }], guard := none }) rfl (fun K hK => ?_) (AllReadyH.nil)
        refine wp_append_any _ (.tmp 102) (.tmp 111) 38 rfl w.heap.size 26 i0i _ 19 44 Tryd.underlying38 hi0 hz0 hz1 hz2 rfl (by decide) _ (m + 1) _ rfl own_3 _ _ 1 1 (flat [ra_ l m]) rfl (recs_one xb_3 hbd).2.1 (flat_one [ra_ l m]) (by unfold maxLen; omega) (by omega) (by have := iv_3.2.size; exact this) ?_
        intro v_4 W_4 own_4 hg_4 hat_4
        have iv_4 : Inv w W_4 := by have q := Below.grown iv_3.2 hg_4 iv_3.2.size (fun g hg => (own_lt3 own_3 g hg).1); exact ⟨hT.below hT.1 q, q⟩
        have xt_4 := xt_3.grown hg_4 (fun e => own_blk_ne own_3 xt_3 (by decide) e.symm)
        have xa_4 := xa_3.grown hg_4 (fun e => own_blk_ne own_3 xa_3 (by decide) e.symm)
        have xu_4 := xu_3.grown hg_4 (fun e => own_blk_ne own_3 xu_3 (by decide) e.symm)
        obtain ⟨g9, c9, e9, _, _⟩ := own_form3 own_4 (by omega)
        subst e9
        refine hK.out _ _ (ty_mk hR iv_4 xt_4) (fun hHeld2 => ?_)
        clear hK K hHeld; have hHeld := hHeld2; clear hHeld2
        try simp only [Act.put, List.setIfInBounds_toArray, List.set_cons_zero, List.set_cons_succ]
        refine wpAnyH_take (i := 14) (oi := { dst := some 113, op := Op.fieldAddr 40 (Operand.tmp 13) 2, type := 0, pos := "law.go:69", after := #[{ on := 0, ground := Ground.phase }, { on := 1, ground := Ground.phase }, { on := 2, ground := Ground.phase }, { on := 3, ground := Ground.phase }, { on := 4, ground := Ground.phase }, { on := 5, ground := Ground.phase }, { on := 6, ground := Ground.phase }, { on := 7, ground := Ground.phase }, { on := 8, ground := Ground.phase }, { on := 9, ground := Ground.phase }, { on := 10, ground := Ground.phase }, { on := 11, ground := Ground.phase }, { on := 12, ground := Ground.phase }, { on := 13, ground := Ground.phase }], guard := none }) (v := ?_) rfl (by kernel_rfl) (by kernel_rfl) (by kernel_rfl) (fun _ _ _ h => h) (Or.inl ⟨by rfl, ?_⟩) hHeld ?_
        rotate_left
        · intro w hSw
          try dsimp only at hSw
          go_simp
          try with_reducible rfl
        try simp only [Act.put, List.setIfInBounds_toArray, List.set_cons_zero, List.set_cons_succ]
        refine wpAnyH_ready (rs := [15]) (by kernel_rfl) (by simp) ?_
        refine AllReadyH.cons (o := { dst := none, op := Op.store 38 (Operand.tmp 113) (Operand.tmp 112), type := 0, pos := "law.go:69", after := #[{ on := 14, ground := Ground.data }, { on := 13, ground := Ground.data }, { on := 13, ground := Ground.chain }, { on := 0, ground := Ground.phase }, { on := 1, ground := Ground.phase }, { on := 2, ground := Ground.phase }, { on := 3, ground := Ground.phase }, { on := 4, ground := Ground.phase }, { on := 5, ground := Ground.phase }, { on := 6, ground := Ground.phase }, { on := 7, ground := Ground.phase }, { on := 8, ground := Ground.phase }, { on := 9, ground := Ground.phase }, { on := 10, ground := Ground.phase }, { on := 11, ground := Ground.phase }, { on := 12, ground := Ground.phase }, { on := 13, ground := Ground.phase }], guard := none }) rfl (fun K hK => ?_) (AllReadyH.nil)
        have cu2 := xu_4.cell 2; have fu2 := xu_4.frozen 2
        simp at cu2
        go_simp
        have xu_5 : Blk (W_4.setCell ⟨gu, 2, none⟩ (.slice (some ⟨g9, 0, none⟩) (m + 1 + 1) c9)) gu 40 #[.int .i64 F, .int .i64 (L + 1), (.slice (some ⟨g9, 0, none⟩) (m + 1 + 1) c9)] := xu_4.set_ 2 (.slice (some ⟨g9, 0, none⟩) (m + 1 + 1) c9)
        have xt_5 := xt_4.far (p := ⟨gu, 2, none⟩) ztu (.slice (some ⟨g9, 0, none⟩) (m + 1 + 1) c9)
        have xa_5 := xa_4.far (p := ⟨gu, 2, none⟩) zau (.slice (some ⟨g9, 0, none⟩) (m + 1 + 1) c9)
        have iv_5 : Inv w (W_4.setCell ⟨gu, 2, none⟩ (.slice (some ⟨g9, 0, none⟩) (m + 1 + 1) c9)) := by have q := iv_4.2.setCell (p := ⟨gu, 2, none⟩) zwu (.slice (some ⟨g9, 0, none⟩) (m + 1 + 1) c9); exact ⟨hT.below hT.1 q, q⟩
        have own_5 := own_setCell own_4 ⟨gu, 2, none⟩ (.slice (some ⟨g9, 0, none⟩) (m + 1 + 1) c9) (own_blk_ne own_4 xu_4 (by decide))
        refine hK.out _ _ (ty_mk hR iv_5 xt_5) (fun hHeld2 => ?_)
        clear hK K hHeld; have hHeld := hHeld2; clear hHeld2
        try simp only [Act.put, List.setIfInBounds_toArray, List.set_cons_zero, List.set_cons_succ]
        refine wpAnyH_done (by kernel_rfl) ?_ _
        clear hHeld
        have hrd9 := Reads.of_own own_5
        go_wp2_with fail
        go_meet
        exact ⟨some ⟨g9, 0, none⟩, c9, iv_5, xt_5, xa_5, xu_5, more_recs hR (by simpa using hrd9)⟩
      · skip
        go_simp
        have iv_6 := iv_1.alloc (.cells (ra_ l m).A 26)
        have xt_6 := xt_1.alloc (.cells (ra_ l m).A 26)
        have xa_6 := xa_1.alloc (.cells (ra_ l m).A 26)
        have xu_6 := xu_1.alloc (.cells (ra_ l m).A 26)
        have xb_6 := blk_at ((W.drew).alloc (.cells (#[] : Array Value) 26)) 26 (ra_ l m).A (sz1 W.drew _ rfl)
        have own_6 := own_1.alloc (.cells (ra_ l m).A 26)
        refine hK.out _ _ (ty_mk hR iv_6 xt_6) (fun hHeld2 => ?_)
        clear hK K hHeld; have hHeld := hHeld2; clear hHeld2
        try simp only [Act.put, List.setIfInBounds_toArray, List.set_cons_zero, List.set_cons_succ]
        refine wpAnyH_ready (rs := [3]) (by kernel_rfl) (by simp) ?_
        refine AllReadyH.cons (o := { dst := some 102, op := Op.call { callee := Callee.builtin Builtin.append, args := #[Operand.tmp 99, Operand.tmp 101], argTypes := #[38, 38] }, type := 38, pos := "law.go:69", after := #[{ on := 0, ground := Ground.data }, { on := 2, ground := Ground.data }], guard := none }) rfl (fun K hK => ?_) (AllReadyH.nil)
        refine wp_append_any _ (.tmp 99) (.tmp 101) 38 rfl w.heap.size 26 i0i _ 19 44 Tryd.underlying38 hi0 hz0 hz1 hz2 rfl (by decide) _ 0 _ rfl own_6 _ _ (m + 1) c (flat l) rfl (hR.below iv_6.2).2.1 (flat_one l) (by unfold maxLen; omega) (by omega) (by have := iv_6.2.size; exact this) ?_
        intro v_7 W_7 own_7 hg_7 hat_7
        have iv_7 : Inv w W_7 := by have q := Below.grown iv_6.2 hg_7 iv_6.2.size (fun g hg => (own_lt3 own_6 g hg).1); exact ⟨hT.below hT.1 q, q⟩
        have xt_7 := xt_6.grown hg_7 (fun e => own_blk_ne own_6 xt_6 (by decide) e.symm)
        have xa_7 := xa_6.grown hg_7 (fun e => own_blk_ne own_6 xa_6 (by decide) e.symm)
        have xu_7 := xu_6.grown hg_7 (fun e => own_blk_ne own_6 xu_6 (by decide) e.symm)
        have xb_7 := xb_6.grown hg_7 (fun e => by have e' := Option.some.inj (show some ((W.drew.heap.size + 1)) = some (W.drew.heap.size) from e); simp at e')
        rw [Nat.zero_add] at own_7
        refine hK.out _ _ (ty_mk hR iv_7 xt_7) (fun hHeld2 => ?_)
        clear hK K hHeld; have hHeld := hHeld2; clear hHeld2
        try simp only [Act.put, List.setIfInBounds_toArray, List.set_cons_zero, List.set_cons_succ]
        refine wpAnyH_ready (rs := [13]) (by kernel_rfl) (by simp) ?_
        refine AllReadyH.cons (o := { dst := some 112, op := Op.call { callee := Callee.builtin Builtin.append, args := #[Operand.tmp 102, Operand.tmp 111], argTypes := #[38, 38] }, type := 38, pos := "law.go:69", after := #[{ on := 3, ground := Ground.data }, { on := 12, ground := Ground.data }, { on := 3, ground := Ground.chain }], guard := none }) rfl (fun K hK => ?_) (AllReadyH.nil)
        refine wp_append_any _ (.tmp 102) (.tmp 111) 38 rfl w.heap.size 26 i0i _ 19 44 Tryd.underlying38 hi0 hz0 hz1 hz2 rfl (by decide) _ (m + 1) _ rfl own_7 _ _ 1 1 (flat [ra_ l m]) rfl (recs_one xb_7 hbd).2.1 (flat_one [ra_ l m]) (by unfold maxLen; omega) (by omega) (by have := iv_7.2.size; exact this) ?_
        intro v_8 W_8 own_8 hg_8 hat_8
        have iv_8 : Inv w W_8 := by have q := Below.grown iv_7.2 hg_8 iv_7.2.size (fun g hg => (own_lt3 own_7 g hg).1); exact ⟨hT.below hT.1 q, q⟩
        have xt_8 := xt_7.grown hg_8 (fun e => own_blk_ne own_7 xt_7 (by decide) e.symm)
        have xa_8 := xa_7.grown hg_8 (fun e => own_blk_ne own_7 xa_7 (by decide) e.symm)
        have xu_8 := xu_7.grown hg_8 (fun e => own_blk_ne own_7 xu_7 (by decide) e.symm)
        obtain ⟨g9, c9, e9, _, _⟩ := own_form3 own_8 (by omega)
        subst e9
        refine hK.out _ _ (ty_mk hR iv_8 xt_8) (fun hHeld2 => ?_)
        clear hK K hHeld; have hHeld := hHeld2; clear hHeld2
        try simp only [Act.put, List.setIfInBounds_toArray, List.set_cons_zero, List.set_cons_succ]
        refine wpAnyH_take (i := 14) (oi := { dst := some 113, op := Op.fieldAddr 40 (Operand.tmp 13) 2, type := 0, pos := "law.go:69", after := #[{ on := 0, ground := Ground.phase }, { on := 1, ground := Ground.phase }, { on := 2, ground := Ground.phase }, { on := 3, ground := Ground.phase }, { on := 4, ground := Ground.phase }, { on := 5, ground := Ground.phase }, { on := 6, ground := Ground.phase }, { on := 7, ground := Ground.phase }, { on := 8, ground := Ground.phase }, { on := 9, ground := Ground.phase }, { on := 10, ground := Ground.phase }, { on := 11, ground := Ground.phase }, { on := 12, ground := Ground.phase }, { on := 13, ground := Ground.phase }], guard := none }) (v := ?_) rfl (by kernel_rfl) (by kernel_rfl) (by kernel_rfl) (fun _ _ _ h => h) (Or.inl ⟨by rfl, ?_⟩) hHeld ?_
        rotate_left
        · intro w hSw
          try dsimp only at hSw
          go_simp
          try with_reducible rfl
        try simp only [Act.put, List.setIfInBounds_toArray, List.set_cons_zero, List.set_cons_succ]
        refine wpAnyH_ready (rs := [15]) (by kernel_rfl) (by simp) ?_
        refine AllReadyH.cons (o := { dst := none, op := Op.store 38 (Operand.tmp 113) (Operand.tmp 112), type := 0, pos := "law.go:69", after := #[{ on := 14, ground := Ground.data }, { on := 13, ground := Ground.data }, { on := 13, ground := Ground.chain }, { on := 0, ground := Ground.phase }, { on := 1, ground := Ground.phase }, { on := 2, ground := Ground.phase }, { on := 3, ground := Ground.phase }, { on := 4, ground := Ground.phase }, { on := 5, ground := Ground.phase }, { on := 6, ground := Ground.phase }, { on := 7, ground := Ground.phase }, { on := 8, ground := Ground.phase }, { on := 9, ground := Ground.phase }, { on := 10, ground := Ground.phase }, { on := 11, ground := Ground.phase }, { on := 12, ground := Ground.phase }, { on := 13, ground := Ground.phase }], guard := none }) rfl (fun K hK => ?_) (AllReadyH.nil)
        have cu2 := xu_8.cell 2; have fu2 := xu_8.frozen 2
        simp at cu2
        go_simp
        have xu_9 : Blk (W_8.setCell ⟨gu, 2, none⟩ (.slice (some ⟨g9, 0, none⟩) (m + 1 + 1) c9)) gu 40 #[.int .i64 F, .int .i64 (L + 1), (.slice (some ⟨g9, 0, none⟩) (m + 1 + 1) c9)] := xu_8.set_ 2 (.slice (some ⟨g9, 0, none⟩) (m + 1 + 1) c9)
        have xt_9 := xt_8.far (p := ⟨gu, 2, none⟩) ztu (.slice (some ⟨g9, 0, none⟩) (m + 1 + 1) c9)
        have xa_9 := xa_8.far (p := ⟨gu, 2, none⟩) zau (.slice (some ⟨g9, 0, none⟩) (m + 1 + 1) c9)
        have iv_9 : Inv w (W_8.setCell ⟨gu, 2, none⟩ (.slice (some ⟨g9, 0, none⟩) (m + 1 + 1) c9)) := by have q := iv_8.2.setCell (p := ⟨gu, 2, none⟩) zwu (.slice (some ⟨g9, 0, none⟩) (m + 1 + 1) c9); exact ⟨hT.below hT.1 q, q⟩
        have own_9 := own_setCell own_8 ⟨gu, 2, none⟩ (.slice (some ⟨g9, 0, none⟩) (m + 1 + 1) c9) (own_blk_ne own_8 xu_8 (by decide))
        refine hK.out _ _ (ty_mk hR iv_9 xt_9) (fun hHeld2 => ?_)
        clear hK K hHeld; have hHeld := hHeld2; clear hHeld2
        try simp only [Act.put, List.setIfInBounds_toArray, List.set_cons_zero, List.set_cons_succ]
        refine wpAnyH_done (by kernel_rfl) ?_ _
        clear hHeld
        have hrd9 := Reads.of_own own_9
        go_wp2_with fail
        go_meet
        exact ⟨some ⟨g9, 0, none⟩, c9, iv_9, xt_9, xa_9, xu_9, more_recs hR (by simpa using hrd9)⟩
    · skip
      go_simp
      have iv_10 := iv.alloc (.cells (ra_ l m).A 26)
      have xt_10 := xt.alloc (.cells (ra_ l m).A 26)
      have xa_10 := xa.alloc (.cells (ra_ l m).A 26)
      have xu_10 := xu.alloc (.cells (ra_ l m).A 26)
      have xb_10 := Blk.new (W.drew) 26 (ra_ l m).A
      refine hK.out _ _ (ty_mk hR iv_10 xt_10) (fun hHeld2 => ?_)
      clear hK K hHeld; have hHeld := hHeld2; clear hHeld2
      try simp only [Act.put, List.setIfInBounds_toArray, List.set_cons_zero, List.set_cons_succ]
      refine wpAnyH_ready (rs := [0]) (by kernel_rfl) (by simp) ?_
      refine AllReadyH.cons (o := { dst := some 99, op := Op.buildSlice 38 0 #[], type := 38, pos := "law.go:69", after := #[], guard := none }) rfl (fun K hK => ?_) (AllReadyH.nil)
      go_simp
      have iv_11 := iv_10.alloc (.cells (#[] : Array Value) 26)
      have xt_11 := xt_10.alloc (.cells (#[] : Array Value) 26)
      have xa_11 := xa_10.alloc (.cells (#[] : Array Value) 26)
      have xu_11 := xu_10.alloc (.cells (#[] : Array Value) 26)
      have own_11 := World.ownsRow_lit (base := w.heap.size) (e := 26) (size := 19) ((W.drew).alloc (.cells (ra_ l m).A 26)) (#[] : Array Value) 0 iv_10.2.size (by unfold maxLen; omega) rfl
      rw [sz1 W.drew _ rfl] at own_11
      have xb_11 := xb_10.alloc (.cells (#[] : Array Value) 26)
      refine hK.out _ _ (ty_mk hR iv_11 xt_11) (fun hHeld2 => ?_)
      clear hK K hHeld; have hHeld := hHeld2; clear hHeld2
      try simp only [Act.put, List.setIfInBounds_toArray, List.set_cons_zero, List.set_cons_succ]
      refine wpAnyH_ready (rs := [3]) (by kernel_rfl) (by simp) ?_
      refine AllReadyH.cons (o := { dst := some 102, op := Op.call { callee := Callee.builtin Builtin.append, args := #[Operand.tmp 99, Operand.tmp 101], argTypes := #[38, 38] }, type := 38, pos := "law.go:69", after := #[{ on := 0, ground := Ground.data }, { on := 2, ground := Ground.data }], guard := none }) rfl (fun K hK => ?_) (AllReadyH.nil)
      refine wp_append_any _ (.tmp 99) (.tmp 101) 38 rfl w.heap.size 26 i0i _ 19 44 Tryd.underlying38 hi0 hz0 hz1 hz2 rfl (by decide) _ 0 _ rfl own_11 _ _ (m + 1) c (flat l) rfl (hR.below iv_11.2).2.1 (flat_one l) (by unfold maxLen; omega) (by omega) (by have := iv_11.2.size; exact this) ?_
      intro v_12 W_12 own_12 hg_12 hat_12
      have iv_12 : Inv w W_12 := by have q := Below.grown iv_11.2 hg_12 iv_11.2.size (fun g hg => (own_lt3 own_11 g hg).1); exact ⟨hT.below hT.1 q, q⟩
      have xt_12 := xt_11.grown hg_12 (fun e => own_blk_ne own_11 xt_11 (by decide) e.symm)
      have xa_12 := xa_11.grown hg_12 (fun e => own_blk_ne own_11 xa_11 (by decide) e.symm)
      have xu_12 := xu_11.grown hg_12 (fun e => own_blk_ne own_11 xu_11 (by decide) e.symm)
      have xb_12 := xb_11.grown hg_12 (fun e => by have e' := Option.some.inj (show some (W.drew.heap.size) = some ((W.drew.heap.size + 1)) from e); simp at e')
      rw [Nat.zero_add] at own_12
      refine hK.out _ _ (ty_mk hR iv_12 xt_12) (fun hHeld2 => ?_)
      clear hK K hHeld; have hHeld := hHeld2; clear hHeld2
      try simp only [Act.put, List.setIfInBounds_toArray, List.set_cons_zero, List.set_cons_succ]
      refine wpAnyH_ready (rs := [13]) (by kernel_rfl) (by simp) ?_
      refine AllReadyH.cons (o := { dst := some 112, op := Op.call { callee := Callee.builtin Builtin.append, args := #[Operand.tmp 102, Operand.tmp 111], argTypes := #[38, 38] }, type := 38, pos := "law.go:69", after := #[{ on := 3, ground := Ground.data }, { on := 12, ground := Ground.data }, { on := 3, ground := Ground.chain }], guard := none }) rfl (fun K hK => ?_) (AllReadyH.nil)
      refine wp_append_any _ (.tmp 102) (.tmp 111) 38 rfl w.heap.size 26 i0i _ 19 44 Tryd.underlying38 hi0 hz0 hz1 hz2 rfl (by decide) _ (m + 1) _ rfl own_12 _ _ 1 1 (flat [ra_ l m]) rfl (recs_one xb_12 hbd).2.1 (flat_one [ra_ l m]) (by unfold maxLen; omega) (by omega) (by have := iv_12.2.size; exact this) ?_
      intro v_13 W_13 own_13 hg_13 hat_13
      have iv_13 : Inv w W_13 := by have q := Below.grown iv_12.2 hg_13 iv_12.2.size (fun g hg => (own_lt3 own_12 g hg).1); exact ⟨hT.below hT.1 q, q⟩
      have xt_13 := xt_12.grown hg_13 (fun e => own_blk_ne own_12 xt_12 (by decide) e.symm)
      have xa_13 := xa_12.grown hg_13 (fun e => own_blk_ne own_12 xa_12 (by decide) e.symm)
      have xu_13 := xu_12.grown hg_13 (fun e => own_blk_ne own_12 xu_12 (by decide) e.symm)
      obtain ⟨g9, c9, e9, _, _⟩ := own_form3 own_13 (by omega)
      subst e9
      refine hK.out _ _ (ty_mk hR iv_13 xt_13) (fun hHeld2 => ?_)
      clear hK K hHeld; have hHeld := hHeld2; clear hHeld2
      try simp only [Act.put, List.setIfInBounds_toArray, List.set_cons_zero, List.set_cons_succ]
      refine wpAnyH_take (i := 14) (oi := { dst := some 113, op := Op.fieldAddr 40 (Operand.tmp 13) 2, type := 0, pos := "law.go:69", after := #[{ on := 0, ground := Ground.phase }, { on := 1, ground := Ground.phase }, { on := 2, ground := Ground.phase }, { on := 3, ground := Ground.phase }, { on := 4, ground := Ground.phase }, { on := 5, ground := Ground.phase }, { on := 6, ground := Ground.phase }, { on := 7, ground := Ground.phase }, { on := 8, ground := Ground.phase }, { on := 9, ground := Ground.phase }, { on := 10, ground := Ground.phase }, { on := 11, ground := Ground.phase }, { on := 12, ground := Ground.phase }, { on := 13, ground := Ground.phase }], guard := none }) (v := ?_) rfl (by kernel_rfl) (by kernel_rfl) (by kernel_rfl) (fun _ _ _ h => h) (Or.inl ⟨by rfl, ?_⟩) hHeld ?_
      rotate_left
      · intro w hSw
        try dsimp only at hSw
        go_simp
        try with_reducible rfl
      try simp only [Act.put, List.setIfInBounds_toArray, List.set_cons_zero, List.set_cons_succ]
      refine wpAnyH_ready (rs := [15]) (by kernel_rfl) (by simp) ?_
      refine AllReadyH.cons (o := { dst := none, op := Op.store 38 (Operand.tmp 113) (Operand.tmp 112), type := 0, pos := "law.go:69", after := #[{ on := 14, ground := Ground.data }, { on := 13, ground := Ground.data }, { on := 13, ground := Ground.chain }, { on := 0, ground := Ground.phase }, { on := 1, ground := Ground.phase }, { on := 2, ground := Ground.phase }, { on := 3, ground := Ground.phase }, { on := 4, ground := Ground.phase }, { on := 5, ground := Ground.phase }, { on := 6, ground := Ground.phase }, { on := 7, ground := Ground.phase }, { on := 8, ground := Ground.phase }, { on := 9, ground := Ground.phase }, { on := 10, ground := Ground.phase }, { on := 11, ground := Ground.phase }, { on := 12, ground := Ground.phase }, { on := 13, ground := Ground.phase }], guard := none }) rfl (fun K hK => ?_) (AllReadyH.nil)
      have cu2 := xu_13.cell 2; have fu2 := xu_13.frozen 2
      simp at cu2
      go_simp
      have xu_14 : Blk (W_13.setCell ⟨gu, 2, none⟩ (.slice (some ⟨g9, 0, none⟩) (m + 1 + 1) c9)) gu 40 #[.int .i64 F, .int .i64 (L + 1), (.slice (some ⟨g9, 0, none⟩) (m + 1 + 1) c9)] := xu_13.set_ 2 (.slice (some ⟨g9, 0, none⟩) (m + 1 + 1) c9)
      have xt_14 := xt_13.far (p := ⟨gu, 2, none⟩) ztu (.slice (some ⟨g9, 0, none⟩) (m + 1 + 1) c9)
      have xa_14 := xa_13.far (p := ⟨gu, 2, none⟩) zau (.slice (some ⟨g9, 0, none⟩) (m + 1 + 1) c9)
      have iv_14 : Inv w (W_13.setCell ⟨gu, 2, none⟩ (.slice (some ⟨g9, 0, none⟩) (m + 1 + 1) c9)) := by have q := iv_13.2.setCell (p := ⟨gu, 2, none⟩) zwu (.slice (some ⟨g9, 0, none⟩) (m + 1 + 1) c9); exact ⟨hT.below hT.1 q, q⟩
      have own_14 := own_setCell own_13 ⟨gu, 2, none⟩ (.slice (some ⟨g9, 0, none⟩) (m + 1 + 1) c9) (own_blk_ne own_13 xu_13 (by decide))
      refine hK.out _ _ (ty_mk hR iv_14 xt_14) (fun hHeld2 => ?_)
      clear hK K hHeld; have hHeld := hHeld2; clear hHeld2
      try simp only [Act.put, List.setIfInBounds_toArray, List.set_cons_zero, List.set_cons_succ]
      refine wpAnyH_done (by kernel_rfl) ?_ _
      clear hHeld
      have hrd9 := Reads.of_own own_14
      go_wp2_with fail
      go_meet
      exact ⟨some ⟨g9, 0, none⟩, c9, iv_14, xt_14, xa_14, xu_14, more_recs hR (by simpa using hrd9)⟩
  case rest =>
    obtain ⟨A9, c9, iv9, xt9, xa9, xu9, hU⟩ := hcut
    clear iv xt xa xu
    obtain ⟨V9, rfl⟩ : ∃ V9 : World, V9 = wc := ⟨_, rfl⟩
    go_wp2_with (first | refine wpList_row_g rfl 40 _ rfl _ rfl _ _ _ _ xu9 Tryd.underlying40 rfl (by kernel_rfl) ?_)
    refine (hcu _ A9 c9 iv9.1 hU).mono ?_; rintro e wv ⟨rfl, hbv⟩
    have ivv := iv9.call hbv
    have xtv := xt9.below hbv xt9.lt
    have xav := xa9.below hbv xa9.lt
    have xuv := xu9.below hbv xu9.lt
    have hUv := (hU.below hbv).more hbv.size
    clear iv9 xt9 xa9 xu9 hU hbv hcu
    rcases hEU with rfl | ⟨rfl, hL9⟩
    · go_wp2_with (first | refine wpList_row_g rfl 40 _ rfl _ rfl _ _ _ _ xuv Tryd.underlying40 rfl (by kernel_rfl) ?_)
      refine (hau (by first | trivial | rfl) _ A9 c9 ivv.1 hUv).mono ?_; rintro e wy ⟨rfl, hby⟩
      have ivy := (ivv.call hby).alloc (.cells (stA0 o1 d1) 43)
      have xay := (xav.below hby xav.lt).alloc (.cells (stA0 o1 d1) 43)
      have xzy := Blk.new wy 43 (stA0 o1 d1)
      have hq : ∀ w, (binOp .eql 43 (.agg (stA0 o1 d1)) (.agg (stA0 o1 d1))).run Tryd.prog w = .ok (.bool true) w := fun w => (eq_sta o1 o1 d1 d1 w).trans (by rw [show eqT o1 d1 o1 d1 = true by unfold eqT; simp])
      go_wp2_with (first | refine wpList_store_new rfl 43 _ _ rfl rfl wy.heap.size (stA0 o1 d1) rfl rfl _ (stA0 0 false) wy rfl rfl rfl (by kernel_rfl) (by kernel_rfl) ?_ | refine wpList_row_g rfl 43 _ rfl _ rfl _ _ _ _ xay Tryd.underlying43 rfl (by kernel_rfl) ?_ | refine wpList_row_g rfl 43 _ rfl _ rfl _ _ _ _ xzy Tryd.underlying43 rfl (by kernel_rfl) ?_)
      go_ret
      exact ⟨rfl, ivy.2⟩
    · subst hL9
      have cl : wv.cell? ⟨w.heap.size, 1, none⟩ = some (.int .i64 9999) := xtv.cell 1
      go_wp2_with fail
      go_ret
      exact ⟨rfl, ivv.2⟩
theorem yr_in2 {s : Int} (h : yrE s = 0) : begY (yrV s) ≤ s ∧ s < begY (yrV s + 1) := by
  have hr := yr_bd h
  have hn : -719162 ≤ s / 86400 ∧ s / 86400 ≤ 2932896 := by omega
  have hokN := (Cal.okN_iff (s / 86400)).2 hn
  have e1 : yrV s = Cal.dayY (s / 86400) := by
    show Cal.ofYV (s / 86400) = _
    unfold Cal.ofYV; rw [if_pos hokN]
  have hb := Civ.year_between (s / 86400) hn
  rw [e1]
  unfold begY
  omega
theorem year_any (F L s : Int) (A : Option Addr) (n c : Nat) (l : List Rc) (w : World) (hT : Tab w) (hR : Recs w w.heap.size A n l) (hm : n ≤ maxLen) (hs : -9223372036854775808 ≤ s ∧ s ≤ 9223372036854775807) :
    Calls Tryd.prog 8 #[tbV F L A n c, .int .i64 s] w fun e w' => e = .returned (.bool true) ∧ Below w.heap.size w w' := by
  by_cases hn : n ≤ 60
  · have hyr := fun W => Clk.year_any s W hs.1 hs.2
    have hat := fun W (i : Inv w W) => tat_any F L A n c w.heap.size l s W i.1 (hR.below i.2) i.2.size hm hs
    have hck := fun W (i : Inv w W) => check_any F L A n c w.heap.size l W i.1 (hR.below i.2) i.2.size hm
    rcases atE_cases F L l s with h0 | ⟨h1, hk⟩ | ⟨h2, hk⟩
    · obtain ⟨hk, hy, hy1⟩ := atE_0.1 h0
      obtain ⟨⟨t1, t2, t3, t4, t5⟩, t6, t7⟩ := tb_ok hk
      have hln := hR.1
      have hyb := yr_bd hy
      have hys := yr_in2 hy
      have hpk : pkE F L l (yrV s) = 0 := by unfold pkE; rw [hk]; simp; omega
      have hB := begY_lt (Y := yrV s) (by omega)
      obtain ⟨s1, s2, s3⟩ := sp_tells (pick F L l (yrV s)) (yrV s) hB
      have s4 := spL_len (pick F L l (yrV s)) (yrV s)
      have eo : tOff F L l s = (pick F L l (yrV s)).off (yrV s) s := by unfold tOff; rw [if_pos h0]
      have ed : tSum F L l s = (pick F L l (yrV s)).sum (yrV s) s := by unfold tSum; rw [if_pos h0]
      rw [h0] at hat
      rw [hy] at hyr
      refine year_main F L s (tOff F L l s) (yrV s) (tbE F (L + 1) (more l)) (tSum F L l s) A n c l w hT hR hm hn (by omega) (by omega) hat hyr (spL (pick F L l (yrV s)) (yrV s)) ?_ ?_ ?_ ?_ ?_
      · intro W i
        have := tspans_any F L A n c w.heap.size l (yrV s) W i.1 (hR.below i.2) i.2.size hm
        rw [hpk] at this
        have et : tsL F L l (yrV s) = spL (pick F L l (yrV s)) (yrV s) := by unfold tsL; rw [if_pos hpk]
        rw [et] at this
        exact this.mono fun _ _ ⟨a, b, c, q1, q2, _, _, _, q5⟩ => ⟨a, b, c, q1, q2, q5⟩
      · intro W A' n' c' hS
        have hn' := hS.1
        refine (lookat_any A' n' c' _ s W hS (by omega) s1 (by rw [s2]; exact hys.1)).mono fun _ _ ⟨⟨k, q1, q2, q3, q4⟩, q5⟩ => ?_
        obtain ⟨z1, z2⟩ := s3 s k hys.1 hys.2 (by omega) q3 (fun j a b => q4 j a (by omega))
        refine ⟨(at_ (spL (pick F L l (yrV s)) (yrV s)) k).f, ?_, q5⟩
        rw [q1, eo, ed, ← z1, ← z2]
      · intro W A' c' hT' hU
        exact check_any F (L + 1) A' (n + 1) c' W.heap.size (more l) W hT' hU (Nat.le_refl _) (by unfold maxLen; omega)
      · intro he W A' c' hT' hU
        have hok : tbOk F (L + 1) (more l) = true := by
          unfold tbE at he
          cases hq : tbOk F (L + 1) (more l) with
          | true => rfl
          | false => rw [hq] at he; cases he
        obtain ⟨m1, m2, m3⟩ := more_at h0 hok
        have := tat_any F (L + 1) A' (n + 1) c' W.heap.size (more l) s W hT' hU (Nat.le_refl _) (by unfold maxLen; omega) hs
        rw [m1, m2, m3] at this
        exact this
      · rcases more_ok hk (by omega) with ⟨q, _⟩ | ⟨q, q2⟩
        · left; unfold tbE; rw [q]; rfl
        · right; exact ⟨by unfold tbE; rw [q]; rfl, q2⟩
    · rw [h1] at hat
      have hce : tbE F L l = 0 := by unfold tbE; rw [hk]; rfl
      rw [hce] at hck
      have hcase : (yrE s != 0) = true ∨ ((yrE s != 0) = false ∧ yrV s < 1601) := by
        rcases yr_01 s with q | q
        · right
          refine ⟨by rw [q]; rfl, ?_⟩
          unfold atE at h1; rw [hk] at h1; simp at h1
          have := h1 q
          omega
        · left; rw [q.1]; rfl
      exact year_none F L s 1 0 (tOff F L l s) (yrE s) (yrV s) (tSum F L l s) A n c w hT hm hn hat hyr hck (.inr ⟨rfl, rfl, hcase⟩)
    · rw [h2] at hat
      have hce : tbE F L l = 2 := by unfold tbE; rw [hk]; rfl
      rw [hce] at hck
      exact year_none F L s 2 2 (tOff F L l s) (yrE s) (yrV s) (tSum F L l s) A n c w hT hm hn hat hyr hck (.inl ⟨rfl, rfl⟩)
  · exact year_long F L s A n c l w hT hR hm hn
end Go.Proofs.YtefcjccapekjdaaDoor.Tb
