/-
  TEXTS OF POINTS, WALKED: a point read of a text.
-/
import Derived.Test.YtoiccljmdplfgaaPt3
namespace Go.Proofs.Ytoiccljmdplfgaa.Pt
open Go.ChangeShapes Go.WideShapes Go.ChangeAt Go.RowKit
open Go.Proofs.Ytoiccljmdplfgaa
open Go.Proofs.Ytoiccljmdplfgaa.Wd
open Go.Proofs.Ytoiccljmdplfgaa.Pl
set_option linter.unusedVariables false
theorem results_p2 {fn : Func} {p q : Tmp} (h : fn.results = #[.cell p 23, .tmp q]) (tmps : Array Value) (w : World) (g : Nat) (t : TypeId) (cs : Array Value) (v : Value)
    (hp : tmps.getD p undef = .pointer (some ⟨g, 0, none⟩)) (hq : tmps.getD q undef = v) (hg : w.heap[g]? = some (.cells cs t (0, 0))) (hs : cs.size = 2) :
    (results fn tmps).run Try.prog w = .ok (.tuple #[.agg cs, v]) w := by
  have hp' : tmps[p]?.getD undef = .pointer (some ⟨g, 0, none⟩) := by simpa using hp
  have hq' : tmps[q]?.getD undef = v := by simpa using hq
  have hi : (Try.prog.info? 23).map (·.size) = some cs.size := by rw [hs]; kernel_rfl
  have hl := run_loadVar_row w g t 23 cs (0, 0) _ hg Try.underlying23 rfl hi
  simp [results, h, hp', hq', asAddr]
  rw [hl]; rfl
abbrev V1 (p : P2) : Value := .agg #[.int .i64 p.la, .int .i64 p.lo]
theorem pt_no {l : List UInt8} (h : ptB l = false) : Ending.returned (.tuple #[.agg #[.int .i64 0, .int .i64 0], .int .i64 4]) = Ending.returned (.tuple #[V1 (ptV l), .int .i64 (ptE l)]) := by
  unfold ptV ptE; rw [h]; rfl
theorem pt_yes {l : List UInt8} {a b : Int} (h : ptB l = true) (hg : gotP l = ⟨a, b⟩) : Ending.returned (.tuple #[.agg #[.int .i64 a, .int .i64 b], .int .i64 0]) = Ending.returned (.tuple #[V1 (ptV l), .int .i64 (ptE l)]) := by
  unfold ptV ptE; rw [h, if_pos rfl, hg]; rfl
theorem take_ext (s : ByteArray) (k : Nat) : L (s.extract 0 k) = (L s).take k := by rw [ext_L]; simp
theorem drop_ext (s : ByteArray) (k : Nat) : L (s.extract k s.size) = (L s).drop k := by rw [ext_L, List.take_of_length_le (by rw [List.length_drop, L_len]; exact Nat.le_refl _)]
theorem ne_B {l : List UInt8} {s : ByteArray} : (l == s.toList) = decide (l = L s) := by
  rw [Lib.toList_data]
  show (l == L s) = _
  rw [Bool.eq_iff_iff, beq_iff_eq, decide_eq_true_eq]
theorem pt_len {l : List UInt8} (h : ¬ (l.length = 11 ∨ l.length = 15)) : ptB l = false := by unfold ptB; rw [decide_eq_false h]; rfl
set_option maxRecDepth 20000 in
set_option maxHeartbeats 3200000 in
theorem point_bad (s : ByteArray) (w : World) (hs : ¬ (s.size = 11 ∨ s.size = 15)) :
    Calls Try.prog 34 #[.string s] w fun e w' => e = .returned (.tuple #[V1 (ptV (L s)), .int .i64 (ptE (L s))]) ∧ Below w.heap.size w w' := by
  have HP := Lib.hid (pt_no (l := L s) (pt_len (by rw [L_len]; exact hs)))
  have h1 : ((s.size : Int) != 11) = true := by simp; omega
  have h2 : ((s.size : Int) != 15) = true := by simp; omega
  have i0 := (BI.start w).alloc (.cells #[.int .i64 0, .int .i64 0] 23)
  clear hs
  go_enter Try.func34, Try.ntmps34
  go_wp2_with (refine wpList_store_new rfl 23 _ _ rfl rfl w.heap.size #[.int .i64 0, .int .i64 0] rfl rfl _ #[.int .i64 0, .int .i64 0] w rfl rfl rfl (by kernel_rfl) (by kernel_rfl) ?_)
  exact bodyPost_ret (results_p2 (p := 2) (q := 3) rfl _ _ _ _ _ (.int .i64 4) rfl rfl (Blk.new w _ _) rfl) rfl ⟨HP.out, i0⟩
theorem ptB_11 {l : List UInt8} (h : l.length = 11) : ptB l = ((readB (l.take 5) 2 false && readB (l.drop 5) 3 false) && ((gotP l).ok && decide (pT (gotP l) = l))) ∧ gotP l = ⟨readV (l.take 5) 2 false, readV (l.drop 5) 3 false⟩ := by
  have h1 : lonB l = false := by unfold lonB; rw [h]; rfl
  have h2 : cutN l = 5 := by unfold cutN; rw [h]; rfl
  unfold ptB gotP
  rw [h1, h2, h]
  exact ⟨by simp, rfl⟩
set_option maxRecDepth 20000 in
set_option maxHeartbeats 3200000 in
theorem point_11 (s : ByteArray) (w : World) (hs : s.size = 11) :
    Calls Try.prog 34 #[.string s] w fun e w' => e = .returned (.tuple #[V1 (ptV (L s)), .int .i64 (ptE (L s))]) ∧ Below w.heap.size w w' := by
  obtain ⟨hB, hG⟩ := ptB_11 (l := L s) (by rw [L_len]; exact hs)
  have hr1 := fun w => read_2 (s.extract 0 5) w (by rw [ext_len _ _ _ (by omega)])
  have hr2 := fun w => read_3 (s.extract 5 s.size) w (by rw [ext_len _ _ _ (Nat.le_refl _)]; omega)
  rw [take_ext] at hr1; rw [drop_ext] at hr2
  have hz : (s.size : Int) = 11 := by omega
  obtain ⟨a1, ha1⟩ : ∃ a, readV ((L s).take 5) 2 false = a := ⟨_, rfl⟩
  obtain ⟨a2, ha2⟩ : ∃ a, readV ((L s).drop 5) 3 false = a := ⟨_, rfl⟩
  obtain ⟨b1, hb1⟩ : ∃ a, readB ((L s).take 5) 2 false = a := ⟨_, rfl⟩
  obtain ⟨b2, hb2⟩ : ∃ a, readB ((L s).drop 5) 3 false = a := ⟨_, rfl⟩
  rw [ha1, hb1] at hr1; rw [ha2, hb2] at hr2
  rw [ha1, ha2] at hG
  rw [hb1, hb2, hG] at hB
  have HG := Lib.hid hG; have HB := Lib.hid hB
  clear hG hB ha1 ha2 hb1 hb2 hs
  have i0 := (BI.start w).alloc (.cells #[.int .i64 0, .int .i64 0] 23)
  have x0 := Blk.new w 23 #[.int .i64 0, .int .i64 0]
  have htx := fun w => ptext_any a1 a2 w
  cases b1
  · have HP := Lib.hid (pt_no (l := L s) (by rw [HB.out]; rfl))
    go_enter Try.func34, Try.ntmps34
    go_wp2_with fail
    refine (hr1 _).mono ?_; rintro e w1 ⟨rfl, hb1⟩
    have x1 := x0.below hb1 x0.lt; have i1 := i0.call hb1
    clear x0 i0 hb1 hr1
    go_wp2_with fail
    refine (hr2 _).mono ?_; rintro e w2 ⟨rfl, hb2⟩
    have x2 := x1.below hb2 x1.lt; have i2 := i1.call hb2
    clear x1 i1 hb2 hr2 htx
    go_wp2_with (refine wpList_store_g rfl 23 _ _ rfl rfl _ 0 #[.int .i64 0, .int .i64 0] #[.int .i64 0, .int .i64 0] rfl rfl _ _ x2 (by show 0 + 2 ≤ 2; decide) (by kernel_rfl) (by kernel_rfl) (by kernel_rfl) ?_)
    exact bodyPost_ret (results_p2 (p := 2) (q := 3) rfl _ _ _ _ _ (.int .i64 4) rfl rfl (Blk.row x2 _) rfl) rfl ⟨HP.out, below_row i2 (Nat.le_refl _) _⟩
  · cases b2
    · have HP := Lib.hid (pt_no (l := L s) (by rw [HB.out]; rfl))
      go_enter Try.func34, Try.ntmps34
      go_wp2_with fail
      refine (hr1 _).mono ?_; rintro e w1 ⟨rfl, hb1⟩
      have x1 := x0.below hb1 x0.lt; have i1 := i0.call hb1
      clear x0 i0 hb1 hr1
      go_wp2_with fail
      refine (hr2 _).mono ?_; rintro e w2 ⟨rfl, hb2⟩
      have x2 := x1.below hb2 x1.lt; have i2 := i1.call hb2
      clear x1 i1 hb2 hr2 htx
      go_wp2_with (refine wpList_store_g rfl 23 _ _ rfl rfl _ 0 #[.int .i64 0, .int .i64 0] #[.int .i64 0, .int .i64 0] rfl rfl _ _ x2 (by show 0 + 2 ≤ 2; decide) (by kernel_rfl) (by kernel_rfl) (by kernel_rfl) ?_)
      exact bodyPost_ret (results_p2 (p := 2) (q := 3) rfl _ _ _ _ _ (.int .i64 4) rfl rfl (Blk.row x2 _) rfl) rfl ⟨HP.out, below_row i2 (Nat.le_refl _) _⟩
    · have hB2 : ptB (L s) = (P2.ok ⟨a1, a2⟩ && decide (pT ⟨a1, a2⟩ = L s)) := by rw [HB.out]; rfl
      obtain ⟨T, hT⟩ : ∃ T, txtT ⟨a1, a2⟩ = T := ⟨_, rfl⟩
      obtain ⟨E, hE⟩ : ∃ E, txtE ⟨a1, a2⟩ = E := ⟨_, rfl⟩
      rw [hT, hE] at htx
      have hcs : (E = 2 ∧ ptB (L s) = false) ∨ (E = 0 ∧ (T == s.toList) = false ∧ ptB (L s) = false) ∨ (E = 0 ∧ (T == s.toList) = true ∧ ptB (L s) = true) := by
        rw [ne_B]
        by_cases hok : P2.ok ⟨a1, a2⟩ = true
        · have hT' : T = pT ⟨a1, a2⟩ := by rw [← hT]; exact if_pos hok
          have hE' : E = 0 := by rw [← hE]; exact if_pos hok
          rw [hB2, hok, hT', Bool.true_and]
          by_cases hq : pT ⟨a1, a2⟩ = L s
          · exact Or.inr (Or.inr ⟨hE', by simp [hq], by simp [hq]⟩)
          · exact Or.inr (Or.inl ⟨hE', by simp [hq], by simp [hq]⟩)
        · exact Or.inl ⟨by rw [← hE]; exact if_neg hok, by rw [hB2, Bool.eq_false_iff.2 hok]; rfl⟩
      clear hB2 hT hE HB
      rcases hcs with ⟨rfl, hq⟩ | ⟨rfl, ht, hq⟩ | ⟨rfl, ht, hq⟩
      · have HP := Lib.hid (pt_no (l := L s) hq)
        clear hq
        go_enter Try.func34, Try.ntmps34
        go_wp2_with fail
        refine (hr1 _).mono ?_; rintro e w1 ⟨rfl, hb1⟩
        have x1 := x0.below hb1 x0.lt; have i1 := i0.call hb1
        clear x0 i0 hb1 hr1
        go_wp2_with fail
        refine (hr2 _).mono ?_; rintro e w2 ⟨rfl, hb2⟩
        have x2 := (x1.below hb2 x1.lt).alloc (.cells #[.int .i64 a1, .int .i64 a2] 23); have i2 := (i1.call hb2).alloc (.cells #[.int .i64 a1, .int .i64 a2] 23)
        have y2 := Blk.new w2 23 #[.int .i64 a1, .int .i64 a2]
        clear x1 i1 hb2 hr2
        go_wp2_with (first | (refine wpList_store_new rfl 23 _ _ rfl rfl w2.heap.size #[.int .i64 a1, .int .i64 a2] rfl rfl _ #[.int .i64 0, .int .i64 0] w2 rfl rfl rfl (by kernel_rfl) (by kernel_rfl) ?_) | (refine wpList_row_g rfl 23 _ rfl _ rfl _ _ _ _ y2 Try.underlying23 rfl (by kernel_rfl) ?_))
        refine (htx _).mono ?_; rintro e w3 ⟨rfl, hb3⟩
        have x3 := x2.below hb3 x2.lt; have i3 := i2.call hb3; have y3 := y2.below hb3 y2.lt
        clear x2 i2 y2 hb3 htx
        go_wp2_with (first | (refine wpList_store_g rfl 23 _ _ rfl rfl w.heap.size 0 #[.int .i64 0, .int .i64 0] #[.int .i64 0, .int .i64 0] rfl rfl _ _ x3 (by show 0 + 2 ≤ 2; decide) (by kernel_rfl) (by kernel_rfl) (by kernel_rfl) ?_) | (refine wpList_row_g rfl 23 _ rfl _ rfl _ _ _ _ y3 Try.underlying23 rfl (by kernel_rfl) ?_))
        exact bodyPost_ret (results_p2 (p := 2) (q := 3) rfl _ _ _ _ _ (.int .i64 4) rfl rfl (Blk.row x3 _) rfl) rfl ⟨HP.out, below_row i3 (Nat.le_refl _) _⟩
      · have HP := Lib.hid (pt_no (l := L s) hq)
        clear hq
        go_enter Try.func34, Try.ntmps34
        go_wp2_with fail
        refine (hr1 _).mono ?_; rintro e w1 ⟨rfl, hb1⟩
        have x1 := x0.below hb1 x0.lt; have i1 := i0.call hb1
        clear x0 i0 hb1 hr1
        go_wp2_with fail
        refine (hr2 _).mono ?_; rintro e w2 ⟨rfl, hb2⟩
        have x2 := (x1.below hb2 x1.lt).alloc (.cells #[.int .i64 a1, .int .i64 a2] 23); have i2 := (i1.call hb2).alloc (.cells #[.int .i64 a1, .int .i64 a2] 23)
        have y2 := Blk.new w2 23 #[.int .i64 a1, .int .i64 a2]
        clear x1 i1 hb2 hr2
        go_wp2_with (first | (refine wpList_store_new rfl 23 _ _ rfl rfl w2.heap.size #[.int .i64 a1, .int .i64 a2] rfl rfl _ #[.int .i64 0, .int .i64 0] w2 rfl rfl rfl (by kernel_rfl) (by kernel_rfl) ?_) | (refine wpList_row_g rfl 23 _ rfl _ rfl _ _ _ _ y2 Try.underlying23 rfl (by kernel_rfl) ?_))
        refine (htx _).mono ?_; rintro e w3 ⟨rfl, hb3⟩
        have x3 := x2.below hb3 x2.lt; have i3 := i2.call hb3; have y3 := y2.below hb3 y2.lt
        clear x2 i2 y2 hb3 htx
        go_wp2_with (first | (refine wpList_store_g rfl 23 _ _ rfl rfl w.heap.size 0 #[.int .i64 0, .int .i64 0] #[.int .i64 0, .int .i64 0] rfl rfl _ _ x3 (by show 0 + 2 ≤ 2; decide) (by kernel_rfl) (by kernel_rfl) (by kernel_rfl) ?_) | (refine wpList_row_g rfl 23 _ rfl _ rfl _ _ _ _ y3 Try.underlying23 rfl (by kernel_rfl) ?_))
        exact bodyPost_ret (results_p2 (p := 2) (q := 3) rfl _ _ _ _ _ (.int .i64 4) rfl rfl (Blk.row x3 _) rfl) rfl ⟨HP.out, below_row i3 (Nat.le_refl _) _⟩
      · have HP := Lib.hid (pt_yes (l := L s) hq HG.out)
        clear hq
        go_enter Try.func34, Try.ntmps34
        go_wp2_with fail
        refine (hr1 _).mono ?_; rintro e w1 ⟨rfl, hb1⟩
        have x1 := x0.below hb1 x0.lt; have i1 := i0.call hb1
        clear x0 i0 hb1 hr1
        go_wp2_with fail
        refine (hr2 _).mono ?_; rintro e w2 ⟨rfl, hb2⟩
        have x2 := (x1.below hb2 x1.lt).alloc (.cells #[.int .i64 a1, .int .i64 a2] 23); have i2 := (i1.call hb2).alloc (.cells #[.int .i64 a1, .int .i64 a2] 23)
        have y2 := Blk.new w2 23 #[.int .i64 a1, .int .i64 a2]
        clear x1 i1 hb2 hr2
        go_wp2_with (first | (refine wpList_store_new rfl 23 _ _ rfl rfl w2.heap.size #[.int .i64 a1, .int .i64 a2] rfl rfl _ #[.int .i64 0, .int .i64 0] w2 rfl rfl rfl (by kernel_rfl) (by kernel_rfl) ?_) | (refine wpList_row_g rfl 23 _ rfl _ rfl _ _ _ _ y2 Try.underlying23 rfl (by kernel_rfl) ?_))
        refine (htx _).mono ?_; rintro e w3 ⟨rfl, hb3⟩
        have x3 := x2.below hb3 x2.lt; have i3 := i2.call hb3; have y3 := y2.below hb3 y2.lt
        clear x2 i2 y2 hb3 htx
        go_wp2_with (first | (refine wpList_store_g rfl 23 _ _ rfl rfl w.heap.size 0 #[.int .i64 a1, .int .i64 a2] #[.int .i64 a1, .int .i64 a2] rfl rfl _ _ x3 (by show 0 + 2 ≤ 2; decide) (by kernel_rfl) (by kernel_rfl) (by kernel_rfl) ?_) | (refine wpList_row_g rfl 23 _ rfl _ rfl _ _ _ _ y3 Try.underlying23 rfl (by kernel_rfl) ?_))
        exact bodyPost_ret (results_p2 (p := 2) (q := 3) rfl _ _ _ _ _ (.int .i64 0) rfl rfl (Blk.row x3 _) rfl) rfl ⟨HP.out, below_row i3 (Nat.le_refl _) _⟩
theorem ptB_15 {l : List UInt8} (h : l.length = 15) : ptB l = ((readB (l.take 7) 2 true && readB (l.drop 7) 3 true) && ((gotP l).ok && decide (pT (gotP l) = l))) ∧ gotP l = ⟨readV (l.take 7) 2 true, readV (l.drop 7) 3 true⟩ := by
  have h1 : lonB l = true := by unfold lonB; rw [h]; rfl
  have h2 : cutN l = 7 := by unfold cutN; rw [h]; rfl
  unfold ptB gotP
  rw [h1, h2, h]
  exact ⟨by simp, rfl⟩
set_option maxRecDepth 20000 in
set_option maxHeartbeats 3200000 in
theorem point_15 (s : ByteArray) (w : World) (hs : s.size = 15) :
    Calls Try.prog 34 #[.string s] w fun e w' => e = .returned (.tuple #[V1 (ptV (L s)), .int .i64 (ptE (L s))]) ∧ Below w.heap.size w w' := by
  obtain ⟨hB, hG⟩ := ptB_15 (l := L s) (by rw [L_len]; exact hs)
  have hr1 := fun w => read_2s (s.extract 0 7) w (by rw [ext_len _ _ _ (by omega)])
  have hr2 := fun w => read_3s (s.extract 7 s.size) w (by rw [ext_len _ _ _ (Nat.le_refl _)]; omega)
  rw [take_ext] at hr1; rw [drop_ext] at hr2
  have hz : (s.size : Int) = 15 := by omega
  obtain ⟨a1, ha1⟩ : ∃ a, readV ((L s).take 7) 2 true = a := ⟨_, rfl⟩
  obtain ⟨a2, ha2⟩ : ∃ a, readV ((L s).drop 7) 3 true = a := ⟨_, rfl⟩
  obtain ⟨b1, hb1⟩ : ∃ a, readB ((L s).take 7) 2 true = a := ⟨_, rfl⟩
  obtain ⟨b2, hb2⟩ : ∃ a, readB ((L s).drop 7) 3 true = a := ⟨_, rfl⟩
  rw [ha1, hb1] at hr1; rw [ha2, hb2] at hr2
  rw [ha1, ha2] at hG
  rw [hb1, hb2, hG] at hB
  have HG := Lib.hid hG; have HB := Lib.hid hB
  clear hG hB ha1 ha2 hb1 hb2 hs
  have i0 := (BI.start w).alloc (.cells #[.int .i64 0, .int .i64 0] 23)
  have x0 := Blk.new w 23 #[.int .i64 0, .int .i64 0]
  have htx := fun w => ptext_any a1 a2 w
  cases b1
  · have HP := Lib.hid (pt_no (l := L s) (by rw [HB.out]; rfl))
    go_enter Try.func34, Try.ntmps34
    go_wp2_with fail
    refine (hr1 _).mono ?_; rintro e w1 ⟨rfl, hb1⟩
    have x1 := x0.below hb1 x0.lt; have i1 := i0.call hb1
    clear x0 i0 hb1 hr1
    go_wp2_with fail
    refine (hr2 _).mono ?_; rintro e w2 ⟨rfl, hb2⟩
    have x2 := x1.below hb2 x1.lt; have i2 := i1.call hb2
    clear x1 i1 hb2 hr2 htx
    go_wp2_with (refine wpList_store_g rfl 23 _ _ rfl rfl _ 0 #[.int .i64 0, .int .i64 0] #[.int .i64 0, .int .i64 0] rfl rfl _ _ x2 (by show 0 + 2 ≤ 2; decide) (by kernel_rfl) (by kernel_rfl) (by kernel_rfl) ?_)
    exact bodyPost_ret (results_p2 (p := 2) (q := 3) rfl _ _ _ _ _ (.int .i64 4) rfl rfl (Blk.row x2 _) rfl) rfl ⟨HP.out, below_row i2 (Nat.le_refl _) _⟩
  · cases b2
    · have HP := Lib.hid (pt_no (l := L s) (by rw [HB.out]; rfl))
      go_enter Try.func34, Try.ntmps34
      go_wp2_with fail
      refine (hr1 _).mono ?_; rintro e w1 ⟨rfl, hb1⟩
      have x1 := x0.below hb1 x0.lt; have i1 := i0.call hb1
      clear x0 i0 hb1 hr1
      go_wp2_with fail
      refine (hr2 _).mono ?_; rintro e w2 ⟨rfl, hb2⟩
      have x2 := x1.below hb2 x1.lt; have i2 := i1.call hb2
      clear x1 i1 hb2 hr2 htx
      go_wp2_with (refine wpList_store_g rfl 23 _ _ rfl rfl _ 0 #[.int .i64 0, .int .i64 0] #[.int .i64 0, .int .i64 0] rfl rfl _ _ x2 (by show 0 + 2 ≤ 2; decide) (by kernel_rfl) (by kernel_rfl) (by kernel_rfl) ?_)
      exact bodyPost_ret (results_p2 (p := 2) (q := 3) rfl _ _ _ _ _ (.int .i64 4) rfl rfl (Blk.row x2 _) rfl) rfl ⟨HP.out, below_row i2 (Nat.le_refl _) _⟩
    · have hB2 : ptB (L s) = (P2.ok ⟨a1, a2⟩ && decide (pT ⟨a1, a2⟩ = L s)) := by rw [HB.out]; rfl
      obtain ⟨T, hT⟩ : ∃ T, txtT ⟨a1, a2⟩ = T := ⟨_, rfl⟩
      obtain ⟨E, hE⟩ : ∃ E, txtE ⟨a1, a2⟩ = E := ⟨_, rfl⟩
      rw [hT, hE] at htx
      have hcs : (E = 2 ∧ ptB (L s) = false) ∨ (E = 0 ∧ (T == s.toList) = false ∧ ptB (L s) = false) ∨ (E = 0 ∧ (T == s.toList) = true ∧ ptB (L s) = true) := by
        rw [ne_B]
        by_cases hok : P2.ok ⟨a1, a2⟩ = true
        · have hT' : T = pT ⟨a1, a2⟩ := by rw [← hT]; exact if_pos hok
          have hE' : E = 0 := by rw [← hE]; exact if_pos hok
          rw [hB2, hok, hT', Bool.true_and]
          by_cases hq : pT ⟨a1, a2⟩ = L s
          · exact Or.inr (Or.inr ⟨hE', by simp [hq], by simp [hq]⟩)
          · exact Or.inr (Or.inl ⟨hE', by simp [hq], by simp [hq]⟩)
        · exact Or.inl ⟨by rw [← hE]; exact if_neg hok, by rw [hB2, Bool.eq_false_iff.2 hok]; rfl⟩
      clear hB2 hT hE HB
      rcases hcs with ⟨rfl, hq⟩ | ⟨rfl, ht, hq⟩ | ⟨rfl, ht, hq⟩
      · have HP := Lib.hid (pt_no (l := L s) hq)
        clear hq
        go_enter Try.func34, Try.ntmps34
        go_wp2_with fail
        refine (hr1 _).mono ?_; rintro e w1 ⟨rfl, hb1⟩
        have x1 := x0.below hb1 x0.lt; have i1 := i0.call hb1
        clear x0 i0 hb1 hr1
        go_wp2_with fail
        refine (hr2 _).mono ?_; rintro e w2 ⟨rfl, hb2⟩
        have x2 := (x1.below hb2 x1.lt).alloc (.cells #[.int .i64 a1, .int .i64 a2] 23); have i2 := (i1.call hb2).alloc (.cells #[.int .i64 a1, .int .i64 a2] 23)
        have y2 := Blk.new w2 23 #[.int .i64 a1, .int .i64 a2]
        clear x1 i1 hb2 hr2
        go_wp2_with (first | (refine wpList_store_new rfl 23 _ _ rfl rfl w2.heap.size #[.int .i64 a1, .int .i64 a2] rfl rfl _ #[.int .i64 0, .int .i64 0] w2 rfl rfl rfl (by kernel_rfl) (by kernel_rfl) ?_) | (refine wpList_row_g rfl 23 _ rfl _ rfl _ _ _ _ y2 Try.underlying23 rfl (by kernel_rfl) ?_))
        refine (htx _).mono ?_; rintro e w3 ⟨rfl, hb3⟩
        have x3 := x2.below hb3 x2.lt; have i3 := i2.call hb3; have y3 := y2.below hb3 y2.lt
        clear x2 i2 y2 hb3 htx
        go_wp2_with (first | (refine wpList_store_g rfl 23 _ _ rfl rfl w.heap.size 0 #[.int .i64 0, .int .i64 0] #[.int .i64 0, .int .i64 0] rfl rfl _ _ x3 (by show 0 + 2 ≤ 2; decide) (by kernel_rfl) (by kernel_rfl) (by kernel_rfl) ?_) | (refine wpList_row_g rfl 23 _ rfl _ rfl _ _ _ _ y3 Try.underlying23 rfl (by kernel_rfl) ?_))
        exact bodyPost_ret (results_p2 (p := 2) (q := 3) rfl _ _ _ _ _ (.int .i64 4) rfl rfl (Blk.row x3 _) rfl) rfl ⟨HP.out, below_row i3 (Nat.le_refl _) _⟩
      · have HP := Lib.hid (pt_no (l := L s) hq)
        clear hq
        go_enter Try.func34, Try.ntmps34
        go_wp2_with fail
        refine (hr1 _).mono ?_; rintro e w1 ⟨rfl, hb1⟩
        have x1 := x0.below hb1 x0.lt; have i1 := i0.call hb1
        clear x0 i0 hb1 hr1
        go_wp2_with fail
        refine (hr2 _).mono ?_; rintro e w2 ⟨rfl, hb2⟩
        have x2 := (x1.below hb2 x1.lt).alloc (.cells #[.int .i64 a1, .int .i64 a2] 23); have i2 := (i1.call hb2).alloc (.cells #[.int .i64 a1, .int .i64 a2] 23)
        have y2 := Blk.new w2 23 #[.int .i64 a1, .int .i64 a2]
        clear x1 i1 hb2 hr2
        go_wp2_with (first | (refine wpList_store_new rfl 23 _ _ rfl rfl w2.heap.size #[.int .i64 a1, .int .i64 a2] rfl rfl _ #[.int .i64 0, .int .i64 0] w2 rfl rfl rfl (by kernel_rfl) (by kernel_rfl) ?_) | (refine wpList_row_g rfl 23 _ rfl _ rfl _ _ _ _ y2 Try.underlying23 rfl (by kernel_rfl) ?_))
        refine (htx _).mono ?_; rintro e w3 ⟨rfl, hb3⟩
        have x3 := x2.below hb3 x2.lt; have i3 := i2.call hb3; have y3 := y2.below hb3 y2.lt
        clear x2 i2 y2 hb3 htx
        go_wp2_with (first | (refine wpList_store_g rfl 23 _ _ rfl rfl w.heap.size 0 #[.int .i64 0, .int .i64 0] #[.int .i64 0, .int .i64 0] rfl rfl _ _ x3 (by show 0 + 2 ≤ 2; decide) (by kernel_rfl) (by kernel_rfl) (by kernel_rfl) ?_) | (refine wpList_row_g rfl 23 _ rfl _ rfl _ _ _ _ y3 Try.underlying23 rfl (by kernel_rfl) ?_))
        exact bodyPost_ret (results_p2 (p := 2) (q := 3) rfl _ _ _ _ _ (.int .i64 4) rfl rfl (Blk.row x3 _) rfl) rfl ⟨HP.out, below_row i3 (Nat.le_refl _) _⟩
      · have HP := Lib.hid (pt_yes (l := L s) hq HG.out)
        clear hq
        go_enter Try.func34, Try.ntmps34
        go_wp2_with fail
        refine (hr1 _).mono ?_; rintro e w1 ⟨rfl, hb1⟩
        have x1 := x0.below hb1 x0.lt; have i1 := i0.call hb1
        clear x0 i0 hb1 hr1
        go_wp2_with fail
        refine (hr2 _).mono ?_; rintro e w2 ⟨rfl, hb2⟩
        have x2 := (x1.below hb2 x1.lt).alloc (.cells #[.int .i64 a1, .int .i64 a2] 23); have i2 := (i1.call hb2).alloc (.cells #[.int .i64 a1, .int .i64 a2] 23)
        have y2 := Blk.new w2 23 #[.int .i64 a1, .int .i64 a2]
        clear x1 i1 hb2 hr2
        go_wp2_with (first | (refine wpList_store_new rfl 23 _ _ rfl rfl w2.heap.size #[.int .i64 a1, .int .i64 a2] rfl rfl _ #[.int .i64 0, .int .i64 0] w2 rfl rfl rfl (by kernel_rfl) (by kernel_rfl) ?_) | (refine wpList_row_g rfl 23 _ rfl _ rfl _ _ _ _ y2 Try.underlying23 rfl (by kernel_rfl) ?_))
        refine (htx _).mono ?_; rintro e w3 ⟨rfl, hb3⟩
        have x3 := x2.below hb3 x2.lt; have i3 := i2.call hb3; have y3 := y2.below hb3 y2.lt
        clear x2 i2 y2 hb3 htx
        go_wp2_with (first | (refine wpList_store_g rfl 23 _ _ rfl rfl w.heap.size 0 #[.int .i64 a1, .int .i64 a2] #[.int .i64 a1, .int .i64 a2] rfl rfl _ _ x3 (by show 0 + 2 ≤ 2; decide) (by kernel_rfl) (by kernel_rfl) (by kernel_rfl) ?_) | (refine wpList_row_g rfl 23 _ rfl _ rfl _ _ _ _ y3 Try.underlying23 rfl (by kernel_rfl) ?_))
        exact bodyPost_ret (results_p2 (p := 2) (q := 3) rfl _ _ _ _ _ (.int .i64 0) rfl rfl (Blk.row x3 _) rfl) rfl ⟨HP.out, below_row i3 (Nat.le_refl _) _⟩
theorem point_at (s : ByteArray) (w : World) :
    Calls Try.prog 34 #[.string s] w fun e w' => e = .returned (.tuple #[V1 (ptV (L s)), .int .i64 (ptE (L s))]) ∧ Below w.heap.size w w' := by
  by_cases h : s.size = 11
  · exact point_11 s w h
  · by_cases h2 : s.size = 15
    · exact point_15 s w h2
    · exact point_bad s w (by omega)
end Go.Proofs.Ytoiccljmdplfgaa.Pt
