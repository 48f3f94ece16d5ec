/-
  The document's reader of footers: a sign, a number, a name: walked.
-/
import Derived.Test.YtgdgkgeoigljcaaDoorFoK
namespace Go.Proofs.YtgdgkgeoigljcaaDoor.Fo
open Go.ChangeShapes Go.WideShapes Go.ChangeAt Go.RowKit Go.Shelf
open Go.Proofs.YtgdgkgeoigljcaaDoor
open Go.Proofs.YtgdgkgeoigljcaaDoor.Wd
open Go.Proofs.YtgdgkgeoigljcaaDoor.Rec
set_option linter.unusedVariables false
set_option linter.unusedSimpArgs false
abbrev rv (x : Rs) : Value := .agg #[.string (B x.s), .bool x.bad]
theorem results_rt {fn : Func} {p a : Tmp} (h : fn.results = #[.cell p 62, .tmp a]) (tmps : Array Value) (w : World) (g : Nat) (t : TypeId) (cs : Array Value) (va : Value)
    (hp : tmps.getD p undef = .pointer (some ⟨g, 0, none⟩)) (ha : tmps.getD a undef = va) (hg : w.heap[g]? = some (.cells cs t (0, 0))) (hs : cs.size = 2) :
    (results fn tmps).run Tryd.prog w = .ok (.tuple #[.agg cs, va]) w := by
  have hp' : tmps[p]?.getD undef = .pointer (some ⟨g, 0, none⟩) := by simpa using hp
  have ha' : tmps[a]?.getD undef = va := by simpa using ha
  have hi : (Tryd.prog.info? 62).map (·.size) = some cs.size := by rw [hs]; kernel_rfl
  have hl := run_loadVar_row w g t 62 cs (0, 0) _ hg Tryd.underlying62 rfl hi
  simp [results, h, hp', ha', asAddr, hl]
theorem rd_mk {w : World} {g : Nat} {s : ByteArray} {bad : Bool} (h : Blk w g 62 #[.string s, .bool bad]) :
    w.cell? ⟨g, 0, none⟩ = some (.string s) ∧ w.cell? ⟨g, 1, none⟩ = some (.bool bad) ∧ Blk w g 62 #[.string s, .bool bad] := ⟨h.cell 0, h.cell 1, h⟩
set_option maxRecDepth 20000 in
set_option maxHeartbeats 6400000 in
theorem rsgn_s (c : UInt8) (s : ByteArray) (bad : Bool) (w : World) (hs : s.size ≤ 100000) :
    Calls Tryd.prog 36 #[.agg #[.string s, .bool bad], .int .u8 (c.toNat : Int)] w fun e w' => e = .returned (.tuple #[rv (mayR c ⟨L s, bad⟩).2, .bool (mayR c ⟨L s, bad⟩).1]) ∧ Below w.heap.size w w' := by
  obtain ⟨g1, hg1⟩ : ∃ g1, g1 = w.heap.size + 1 := ⟨_, rfl⟩
  have x0 := (Blk.new w 62 #[.string s, .bool bad]).alloc (.cells #[.string ⟨#[]⟩, .bool false] 62)
  have y0 : Blk ((w.alloc (.cells #[.string s, .bool bad] 62)).alloc (.cells #[.string ⟨#[]⟩, .bool false] 62)) g1 62 #[.string ⟨#[]⟩, .bool false] := by have := blk_at' (w.alloc (.cells #[.string s, .bool bad] 62)) 62 #[.string ⟨#[]⟩, .bool false] (sz1 w (.cells #[.string s, .bool bad] 62) rfl); rw [hg1]; exact this
  have hb0 : Below w.heap.size w ((w.alloc (.cells #[.string s, .bool bad] 62)).alloc (.cells #[.string ⟨#[]⟩, .bool false] 62)) := ((Below.refl _ w).alloc (Nat.le_refl _) _).alloc (by rw [sz1 _ _ rfl]; exact Nat.le_succ _) _
  by_cases h0 : s.size = 0
  · obtain rfl : s = ⟨#[]⟩ := by apply ByteArray.ext; exact Array.size_eq_zero_iff.1 h0
    have HV := Lib.hid (show Value.tuple #[.agg #[.string ⟨#[]⟩, .bool bad], .bool false] = .tuple #[rv (mayR c ⟨L ⟨#[]⟩, bad⟩).2, .bool (mayR c ⟨L ⟨#[]⟩, bad⟩).1] from rfl)
    clear h0
    go_enter Tryd.func36, Tryd.ntmps36
    go_upto_region 1 with fail
    generalize (w.alloc (.cells #[.string ⟨#[]⟩, .bool bad] 62)).alloc (.cells #[.string ⟨#[]⟩, .bool false] 62) = W at *
    rw [← hg1]
    have hgl : w.heap.size < g1 := by omega
    clear hg1
    have d0 : W.cell? ⟨w.heap.size, 0, none⟩ = some (.string ⟨#[]⟩) := x0.cell 0
    go_wp2_with (first | (refine wpList_row_g rfl 62 _ rfl _ rfl _ _ _ _ x0 Tryd.underlying62 rfl (by kernel_rfl) ?_) | (refine wpList_store_seg rfl 62 _ _ rfl rfl g1 0 #[.string ⟨#[]⟩, .bool bad] #[.string ⟨#[]⟩, .bool bad] rfl rfl _ _ y0 (Nat.le_refl 2) (by kernel_rfl) (by kernel_rfl) (by kernel_rfl) ?_))
    refine bodyPost_ret (results_rt (p := 4) (a := 5) rfl _ _ _ _ #[.string ⟨#[]⟩, .bool bad] (.bool false) rfl rfl (Blk.row y0 _) rfl) rfl ⟨congrArg Ending.returned HV.out, below_row hb0 (by omega) _⟩
  · have hp : 0 < s.size := by omega
    have hpI : (0 : Int) < (s.size : Int) := by omega
    have hne : s ≠ ⟨#[]⟩ := by rintro rfl; exact h0 rfl
    have hnl : (s.toList == []) = false := by rw [Lib.toList_data, beq_eq_false_iff_ne]; intro e; have := L_len s; rw [show L s = [] from e] at this; exact h0 this.symm
    have hnl2 : s.toList.isEmpty = false := by
      cases q : s.toList with
      | nil => rw [q] at hnl; cases hnl
      | cons _ _ => rfl
    have hL : L s = s[0] :: (L s).drop 1 := by have := List.drop_eq_getElem_cons (l := L s) (i := 0) (by rw [L_len]; exact hp); exact this
    by_cases hc : s[0] = c
    · have HV := Lib.hid (show Value.tuple #[.agg #[.string (s.extract 1 s.size), .bool bad], .bool true] = .tuple #[rv (mayR c ⟨L s, bad⟩).2, .bool (mayR c ⟨L s, bad⟩).1] by rw [hL, hc, may_hit, ext_drop])
      have hcI : ((s[0].toNat : Int) != (c.toNat : Int)) = false := by rw [hc]; simp
      have h1I : (1 : Int) ≤ (s.size : Int) := by omega
      clear hc hL hne h0
      go_enter Tryd.func36, Tryd.ntmps36
      go_upto_region 1 with fail
      generalize (w.alloc (.cells #[.string s, .bool bad] 62)).alloc (.cells #[.string ⟨#[]⟩, .bool false] 62) = W at *
      rw [← hg1]
      have hgl : w.heap.size < g1 := by omega
      clear hg1
      have d0 : W.cell? ⟨w.heap.size, 0, none⟩ = some (.string s) := x0.cell 0
      go_upto_region 3 with fail
      clear d0
      refine wp_region_held_drew (S := fun w' => w'.cell? ⟨w.heap.size, 0, none⟩ = some (.string s) ∧ w'.cell? ⟨w.heap.size, 1, none⟩ = some (.bool bad) ∧ Blk w' w.heap.size 62 #[.string s, .bool bad]) (by kernel_rfl) (rd_mk (show Blk W.drew w.heap.size 62 #[.string s, .bool bad] from x0)) (fun hHeld => ?_)
      refine wpAnyH_take (i := 0) (oi := { dst := some 17, op := Op.fieldAddr 62 (Operand.tmp 2) 0, type := 0, pos := "ref.go:127", after := #[], guard := none }) (v := ?_) rfl (by kernel_rfl) (by kernel_rfl) (by kernel_rfl) (fun _ _ _ h => h) (Or.inl ⟨by rfl, ?_⟩) hHeld ?_
      rotate_left
      · intro w hSw
        try dsimp only at hSw
        go_simp
        try with_reducible rfl
      try simp only [Act.put, List.setIfInBounds_toArray, List.set_cons_zero, List.set_cons_succ]
      refine wpAnyH_take (i := 1) (oi := { dst := some 18, op := Op.load 9 (Operand.tmp 17), type := 9, pos := "ref.go:127", after := #[{ on := 0, ground := Ground.data }], guard := none }) (v := ?_) rfl (by kernel_rfl) (by kernel_rfl) (by kernel_rfl) (fun _ _ _ h => h) (Or.inl ⟨by rfl, ?_⟩) hHeld ?_
      rotate_left
      · intro w hSw
        try dsimp only at hSw
        go_simp
        try with_reducible rfl
      try simp only [Act.put, List.setIfInBounds_toArray, List.set_cons_zero, List.set_cons_succ]
      refine wpAnyH_take (i := 2) (oi := { dst := some 19, op := Op.slice 9 (Operand.tmp 18) (some (Operand.const (Value.int IntKind.i64 1))) none none, type := 9, pos := "ref.go:127", after := #[{ on := 1, ground := Ground.data }], guard := none }) (v := ?_) rfl (by kernel_rfl) (by kernel_rfl) (by kernel_rfl) (fun _ _ _ h => h) (Or.inl ⟨by rfl, ?_⟩) hHeld ?_
      rotate_left
      · intro w hSw
        try dsimp only at hSw
        go_simp
        try with_reducible rfl
      try simp only [Act.put, List.setIfInBounds_toArray, List.set_cons_zero, List.set_cons_succ]
      refine wpAnyH_take (i := 3) (oi := { dst := some 20, op := Op.fieldAddr 62 (Operand.tmp 2) 1, type := 0, pos := "ref.go:127", after := #[], guard := none }) (v := ?_) rfl (by kernel_rfl) (by kernel_rfl) (by kernel_rfl) (fun _ _ _ h => h) (Or.inl ⟨by rfl, ?_⟩) hHeld ?_
      rotate_left
      · intro w hSw
        try dsimp only at hSw
        go_simp
        try with_reducible rfl
      try simp only [Act.put, List.setIfInBounds_toArray, List.set_cons_zero, List.set_cons_succ]
      refine wpAnyH_take (i := 4) (oi := { dst := some 21, op := Op.load 4 (Operand.tmp 20), type := 4, pos := "ref.go:127", after := #[{ on := 3, ground := Ground.data }], guard := none }) (v := ?_) rfl (by kernel_rfl) (by kernel_rfl) (by kernel_rfl) (fun _ _ _ h => h) (Or.inl ⟨by rfl, ?_⟩) hHeld ?_
      rotate_left
      · intro w hSw
        try dsimp only at hSw
        go_simp
        try with_reducible rfl
      try simp only [Act.put, List.setIfInBounds_toArray, List.set_cons_zero, List.set_cons_succ]
      refine wpAnyH_take (i := 5) (oi := { dst := some 22, op := Op.build 62 #[(0, Operand.tmp 19), (1, Operand.tmp 21)], type := 62, pos := "ref.go:127", after := #[{ on := 2, ground := Ground.data }, { on := 4, ground := Ground.data }], guard := none }) (v := ?_) rfl (by kernel_rfl) (by kernel_rfl) (by kernel_rfl) (fun _ _ _ h => h) (Or.inl ⟨by rfl, ?_⟩) hHeld ?_
      rotate_left
      · intro w hSw
        try dsimp only at hSw
        go_simp
        try with_reducible rfl
      try simp only [Act.put, List.setIfInBounds_toArray, List.set_cons_zero, List.set_cons_succ]
      refine wpAnyH_ready (rs := [6]) (by kernel_rfl) (by simp) ?_
      refine AllReadyH.cons (o := { dst := none, op := Op.store 62 (Operand.tmp 4) (Operand.tmp 22), type := 0, pos := "ref.go:127", after := #[{ on := 5, ground := Ground.data }, { on := 0, ground := Ground.phase }, { on := 1, ground := Ground.phase }, { on := 2, ground := Ground.phase }, { on := 3, ground := Ground.phase }, { on := 4, ground := Ground.phase }, { on := 5, ground := Ground.phase }], guard := none }) rfl (fun K hK => ?_) (AllReadyH.nil)
      rw [if_pos (by rfl)]
      refine wp_store_g 62 (.tmp 4) (.tmp 22) rfl rfl g1 0 #[.string (s.extract 1 s.size), .bool bad] #[.string (s.extract 1 s.size), .bool bad] rfl rfl _ _ y0 (Nat.le_refl 2) (by kernel_rfl) (by kernel_rfl) (by kernel_rfl) ?_
      refine hK.out _ _ (rd_mk (Blk.rowFar hHeld.2.2 (by omega) _)) (fun hHeld2 => ?_)
      clear hK K hHeld; have hHeld := hHeld2; clear hHeld2
      try simp only [Act.put, List.setIfInBounds_toArray, List.set_cons_zero, List.set_cons_succ]
      refine wpAnyH_take (i := 7) (oi := { dst := some 5, op := Op.assign (Operand.const (Value.bool true)), type := 4, pos := "ref.go:127", after := #[{ on := 6, ground := Ground.chain }, { on := 0, ground := Ground.phase }, { on := 1, ground := Ground.phase }, { on := 2, ground := Ground.phase }, { on := 3, ground := Ground.phase }, { on := 4, ground := Ground.phase }, { on := 5, ground := Ground.phase }, { on := 6, ground := Ground.phase }], guard := none }) (v := ?_) rfl (by kernel_rfl) (by kernel_rfl) (by kernel_rfl) (fun _ _ _ h => h) (Or.inl ⟨by rfl, ?_⟩) hHeld ?_
      rotate_left
      · intro w hSw
        try dsimp only at hSw
        go_simp
        try with_reducible rfl
      try simp only [Act.put, List.setIfInBounds_toArray, List.set_cons_zero, List.set_cons_succ]
      refine wpAnyH_done (by kernel_rfl) ?_ _
      go_wp2_with fail
      refine bodyPost_ret (results_rt (p := 4) (a := 5) rfl _ _ _ _ #[.string (s.extract 1 s.size), .bool bad] (.bool true) rfl rfl (Blk.row y0 _) rfl) rfl ⟨congrArg Ending.returned HV.out, below_row hb0.drew (by omega) _⟩
    · have HV := Lib.hid (show Value.tuple #[.agg #[.string s, .bool bad], .bool false] = .tuple #[rv (mayR c ⟨L s, bad⟩).2, .bool (mayR c ⟨L s, bad⟩).1] by
        rw [may_miss bad (show Hd (fun b => b == c) (L s) by rw [hL]; exact Hd.cons (by rw [beq_eq_false_iff_ne]; exact hc))])
      have hcI : ((s[0].toNat : Int) != (c.toNat : Int)) = true := by rw [bne_iff_ne]; exact fun e => hc (UInt8.toNat_inj.1 (by omega))
      clear hc hL hne h0
      go_enter Tryd.func36, Tryd.ntmps36
      go_upto_region 1 with fail
      generalize (w.alloc (.cells #[.string s, .bool bad] 62)).alloc (.cells #[.string ⟨#[]⟩, .bool false] 62) = W at *
      rw [← hg1]
      have hgl : w.heap.size < g1 := by omega
      clear hg1
      have d0 : W.cell? ⟨w.heap.size, 0, none⟩ = some (.string s) := x0.cell 0
      go_wp2_with (first | (refine wpList_row_g rfl 62 _ rfl _ rfl _ _ _ _ x0 Tryd.underlying62 rfl (by kernel_rfl) ?_) | (refine wpList_store_seg rfl 62 _ _ rfl rfl g1 0 #[.string s, .bool bad] #[.string s, .bool bad] rfl rfl _ _ y0 (Nat.le_refl 2) (by kernel_rfl) (by kernel_rfl) (by kernel_rfl) ?_))
      refine bodyPost_ret (results_rt (p := 4) (a := 5) rfl _ _ _ _ #[.string s, .bool bad] (.bool false) rfl rfl (Blk.row y0 _) rfl) rfl ⟨congrArg Ending.returned HV.out, below_row hb0 (by omega) _⟩
theorem rsgn_any (c : UInt8) (x : Rs) (w : World) (hx : x.s.length ≤ 100000) : Calls Tryd.prog 36 #[rv x, .int .u8 (c.toNat : Int)] w fun e w' => e = .returned (.tuple #[rv (mayR c x).2, .bool (mayR c x).1]) ∧ Below w.heap.size w w' :=
  rsgn_s c (B x.s) x.bad w (by rw [B_len]; exact hx)
theorem num_bd4 {l : List UInt8} (hd : ∀ b ∈ l, dgB b = true) : True ∧ (l.length ≤ 3 → numN l ≤ 999) := by
  have hv : ∀ b ∈ l, b.toNat - 48 ≤ 9 := fun b hb => by have := hd b hb; unfold dgB at this; rw [decide_eq_true_eq] at this; omega
  refine ⟨trivial, fun h => ?_⟩
  match l, h with
  | [], _ => exact Nat.zero_le _
  | [a], _ =>
    have := hv a (by simp)
    show 0 * 10 + (a.toNat - 48) ≤ 999; omega
  | [a, b], _ =>
    have := hv a (by simp); have := hv b (by simp)
    show (0 * 10 + (a.toNat - 48)) * 10 + (b.toNat - 48) ≤ 999; omega
  | [a, b, c], _ =>
    have := hv a (by simp); have := hv b (by simp); have := hv c (by simp)
    show ((0 * 10 + (a.toNat - 48)) * 10 + (b.toNat - 48)) * 10 + (c.toNat - 48) ≤ 999; omega
  | a :: b :: c :: d :: r, h => simp at h
set_option maxRecDepth 20000 in
set_option maxHeartbeats 6400000 in
theorem rnm_s (s : ByteArray) (bad : Bool) (w : World) (hs : s.size ≤ 100000) :
    Calls Tryd.prog 59 #[.agg #[.string s, .bool bad]] w fun e w' => e = .returned (.tuple #[rv (numR 4 ⟨L s, bad⟩).2, .int .i64 ((numR 4 ⟨L s, bad⟩).1 : Int)]) ∧ Below w.heap.size w w' := by
  obtain ⟨g1, hg1⟩ : ∃ g1, g1 = w.heap.size + 1 := ⟨_, rfl⟩
  have x0 := (Blk.new w 62 #[.string s, .bool bad]).alloc (.cells #[.string ⟨#[]⟩, .bool false] 62)
  have y0 : Blk ((w.alloc (.cells #[.string s, .bool bad] 62)).alloc (.cells #[.string ⟨#[]⟩, .bool false] 62)) g1 62 #[.string ⟨#[]⟩, .bool false] := by have := blk_at' (w.alloc (.cells #[.string s, .bool bad] 62)) 62 #[.string ⟨#[]⟩, .bool false] (sz1 w (.cells #[.string s, .bool bad] 62) rfl); rw [hg1]; exact this
  have hb0 : Below w.heap.size w ((w.alloc (.cells #[.string s, .bool bad] 62)).alloc (.cells #[.string ⟨#[]⟩, .bool false] 62)) := ((Below.refl _ w).alloc (Nat.le_refl _) _).alloc (by rw [sz1 _ _ rfl]; exact Nat.le_succ _) _
  go_enter Tryd.func59, Tryd.ntmps59
  go_upto_region 1 with fail
  generalize (w.alloc (.cells #[.string s, .bool bad] 62)).alloc (.cells #[.string ⟨#[]⟩, .bool false] 62) = W at *
  rw [← hg1]
  have hgl : w.heap.size < g1 := by omega
  clear hg1
  go_wp2_with fail
  go_loopw [4, 5] (fun nv iv wr => ∃ j : Nat, iv = .int .i64 (j : Int) ∧ j ≤ 4 ∧ j ≤ s.size ∧ (∀ b ∈ (L s).take j, dgB b = true) ∧ nv = .int .i64 (numN ((L s).take j) : Int) ∧ wr = W) (fun _ iv _ => 4 - (intOf iv).toNat)
  case atStart => exact ⟨0, rfl, Nat.zero_le _, Nat.zero_le _, (fun b hb => by simp at hb), rfl, rfl⟩
  case round =>
    obtain ⟨j, rfl, hjk, hjs, hall, rfl, rfl⟩ := hrel
    have hbd := num_bd4 (l := (L s).take j) hall
    have hb3 : j ≤ 3 → numN ((L s).take j) ≤ 999 := fun q => hbd.2 (Nat.le_trans (List.length_take_le _ _) q)
    clear hbd
    have HA := Lib.hid hall; clear hall
    have hjI : (j : Int) ≤ (s.size : Int) := by omega
    by_cases hc : (j = 4 ∨ ∀ q : j < (L s).length, dgB (L s)[j] = false)
    · have HC := Lib.hid (cnt_at 4 j (L s) hjk (by rw [L_len]; exact hjs) HA.out hc)
      have HE2 := Lib.hid (show numR 4 ⟨L s, bad⟩ = (numN ((L s).take j), ⟨(L s).drop j, bad || j == 0⟩) by unfold numR; rw [HC.out])
      have HX := Lib.hid (ext_drop s j)
      clear HC hb3 HA
      generalize numN ((L s).take j) = N at *
      by_cases e2 : j < s.size
      · have e2' : (j : Int) < (s.size : Int) := by omega
        by_cases e1 : j < 4
        · have e1' : (j : Int) < 4 := by omega
          have hd0 : dgB s[j] = false := by
            rcases hc with q | q
            · omega
            · exact q (by rw [L_len]; exact e2)
          have hcl : s[j].toNat < 48 ∨ (48 ≤ s[j].toNat ∧ 57 < s[j].toNat) := by unfold dgB at hd0; rw [decide_eq_false_iff_not] at hd0; omega
          clear hc hd0
          rcases hcl with q | ⟨q, q2⟩
          · have f1 : ¬ (48 : Int) ≤ (s[j].toNat : Int) := by omega
            clear q
            have HBC : bad = true ∨ (bad = false ∧ j = 0) ∨ (bad = false ∧ j ≠ 0) := by cases bad <;> by_cases q : j = 0 <;> simp [q]
            rcases HBC with rfl | ⟨rfl, hj0⟩ | ⟨rfl, hj0⟩
            · have HV := Lib.hid (show Value.tuple #[.agg #[.string (s.extract j s.size), .bool true], .int .i64 (N : Int)] = .tuple #[rv (numR 4 ⟨L s, true⟩).2, .int .i64 ((numR 4 ⟨L s, true⟩).1 : Int)] by rw [HE2.out, HX.out]; rfl)
              clear HE2 HX
              have c0 : wr.cell? ⟨w.heap.size, 0, none⟩ = some (.string s) := x0.cell 0
              go_upto_region 5 with fail
              clear c0
              refine wp_region_held_drew (S := fun w' => w'.cell? ⟨w.heap.size, 0, none⟩ = some (.string s) ∧ w'.cell? ⟨w.heap.size, 1, none⟩ = some (.bool true) ∧ Blk w' w.heap.size 62 #[.string s, .bool true]) (by kernel_rfl) (rd_mk (show Blk wr.drew w.heap.size 62 #[.string s, .bool true] from x0)) (fun hHeld => ?_)
              refine wpAnyH_take (i := 0) (oi := { dst := some 40, op := Op.fieldAddr 62 (Operand.tmp 1) 0, type := 0, pos := "ref.go:119", after := #[], guard := none }) (v := ?_) rfl (by kernel_rfl) (by kernel_rfl) (by kernel_rfl) (fun _ _ _ h => h) (Or.inl ⟨by rfl, ?_⟩) hHeld ?_
              rotate_left
              · intro w hSw
                try dsimp only at hSw
                go_simp
                try with_reducible rfl
              try simp only [Act.put, List.setIfInBounds_toArray, List.set_cons_zero, List.set_cons_succ]
              refine wpAnyH_take (i := 1) (oi := { dst := some 41, op := Op.load 9 (Operand.tmp 40), type := 9, pos := "ref.go:119", after := #[{ on := 0, ground := Ground.data }], guard := none }) (v := ?_) rfl (by kernel_rfl) (by kernel_rfl) (by kernel_rfl) (fun _ _ _ h => h) (Or.inl ⟨by rfl, ?_⟩) hHeld ?_
              rotate_left
              · intro w hSw
                try dsimp only at hSw
                go_simp
                try with_reducible rfl
              try simp only [Act.put, List.setIfInBounds_toArray, List.set_cons_zero, List.set_cons_succ]
              refine wpAnyH_take (i := 2) (oi := { dst := some 42, op := Op.move (Operand.tmp 5), type := 3, pos := "ref.go:119", after := #[], guard := none }) (v := ?_) rfl (by kernel_rfl) (by kernel_rfl) (by kernel_rfl) (fun _ _ _ h => h) (Or.inl ⟨by rfl, ?_⟩) hHeld ?_
              rotate_left
              · intro w hSw
                try dsimp only at hSw
                go_simp
                try with_reducible rfl
              try simp only [Act.put, List.setIfInBounds_toArray, List.set_cons_zero, List.set_cons_succ]
              refine wpAnyH_take (i := 3) (oi := { dst := some 43, op := Op.slice 9 (Operand.tmp 41) (some (Operand.tmp 42)) none none, type := 9, pos := "ref.go:119", after := #[{ on := 1, ground := Ground.data }, { on := 2, ground := Ground.data }], guard := none }) (v := ?_) rfl (by kernel_rfl) (by kernel_rfl) (by kernel_rfl) (fun _ _ _ h => h) (Or.inl ⟨by rfl, ?_⟩) hHeld ?_
              rotate_left
              · intro w hSw
                try dsimp only at hSw
                go_simp
                try with_reducible rfl
              try simp only [Act.put, List.setIfInBounds_toArray, List.set_cons_zero, List.set_cons_succ]
              refine wpAnyH_take (i := 4) (oi := { dst := some 44, op := Op.fieldAddr 62 (Operand.tmp 1) 1, type := 0, pos := "ref.go:119", after := #[], guard := none }) (v := ?_) rfl (by kernel_rfl) (by kernel_rfl) (by kernel_rfl) (fun _ _ _ h => h) (Or.inl ⟨by rfl, ?_⟩) hHeld ?_
              rotate_left
              · intro w hSw
                try dsimp only at hSw
                go_simp
                try with_reducible rfl
              try simp only [Act.put, List.setIfInBounds_toArray, List.set_cons_zero, List.set_cons_succ]
              refine wpAnyH_take (i := 5) (oi := { dst := some 45, op := Op.load 4 (Operand.tmp 44), type := 4, pos := "ref.go:119", after := #[{ on := 4, ground := Ground.data }], guard := none }) (v := ?_) rfl (by kernel_rfl) (by kernel_rfl) (by kernel_rfl) (fun _ _ _ h => h) (Or.inl ⟨by rfl, ?_⟩) hHeld ?_
              rotate_left
              · intro w hSw
                try dsimp only at hSw
                go_simp
                try with_reducible rfl
              try simp only [Act.put, List.setIfInBounds_toArray, List.set_cons_zero, List.set_cons_succ]
              refine wpAnyH_take (i := 6) (oi := { dst := some 46, op := Op.move (Operand.tmp 45), type := 4, pos := "ref.go:119", after := #[{ on := 5, ground := Ground.data }], guard := none }) (v := ?_) rfl (by kernel_rfl) (by kernel_rfl) (by kernel_rfl) (fun _ _ _ h => h) (Or.inl ⟨by rfl, ?_⟩) hHeld ?_
              rotate_left
              · intro w hSw
                try dsimp only at hSw
                go_simp
                try with_reducible rfl
              try simp only [Act.put, List.setIfInBounds_toArray, List.set_cons_zero, List.set_cons_succ]
              refine wpAnyH_take (i := 7) (oi := { dst := some 47, op := Op.move (Operand.tmp 5), type := 3, pos := "ref.go:119", after := #[{ on := 6, ground := Ground.guard }], guard := some (6, false) }) (v := undef) rfl (by kernel_rfl) (by kernel_rfl) (by kernel_rfl) (fun _ _ _ h => h) (Or.inr ⟨by rfl, rfl⟩) hHeld ?_
              try simp only [Act.put, List.setIfInBounds_toArray, List.set_cons_zero, List.set_cons_succ]
              refine wpAnyH_take (i := 8) (oi := { dst := some 48, op := Op.binOp BinOp.eql 3 (Operand.tmp 47) (Operand.const (Value.int IntKind.i64 0)) 3, type := 4, pos := "ref.go:119", after := #[{ on := 7, ground := Ground.data }, { on := 6, ground := Ground.guard }], guard := some (6, false) }) (v := undef) rfl (by kernel_rfl) (by kernel_rfl) (by kernel_rfl) (fun _ _ _ h => h) (Or.inr ⟨by rfl, rfl⟩) hHeld ?_
              try simp only [Act.put, List.setIfInBounds_toArray, List.set_cons_zero, List.set_cons_succ]
              refine wpAnyH_take (i := 9) (oi := { dst := some 49, op := Op.pick (Operand.tmp 46) (Operand.const (Value.bool true)) (Operand.tmp 48), type := 4, pos := "ref.go:119", after := #[{ on := 6, ground := Ground.data }, { on := 8, ground := Ground.data }], guard := none }) (v := ?_) rfl (by kernel_rfl) (by kernel_rfl) (by kernel_rfl) (fun _ _ _ h => h) (Or.inl ⟨by rfl, ?_⟩) hHeld ?_
              rotate_left
              · intro w hSw
                try dsimp only at hSw
                go_simp
                try with_reducible rfl
              try simp only [Act.put, List.setIfInBounds_toArray, List.set_cons_zero, List.set_cons_succ]
              refine wpAnyH_take (i := 10) (oi := { dst := some 50, op := Op.build 62 #[(0, Operand.tmp 43), (1, Operand.tmp 49)], type := 62, pos := "ref.go:119", after := #[{ on := 3, ground := Ground.data }, { on := 9, ground := Ground.data }], guard := none }) (v := ?_) rfl (by kernel_rfl) (by kernel_rfl) (by kernel_rfl) (fun _ _ _ h => h) (Or.inl ⟨by rfl, ?_⟩) hHeld ?_
              rotate_left
              · intro w hSw
                try dsimp only at hSw
                go_simp
                try with_reducible rfl
              try simp only [Act.put, List.setIfInBounds_toArray, List.set_cons_zero, List.set_cons_succ]
              refine wpAnyH_take (i := 11) (oi := { dst := some 51, op := Op.move (Operand.tmp 4), type := 2, pos := "ref.go:119", after := #[{ on := 12, ground := Ground.gcOnly Departure.lateStores }], guard := none }) (v := ?_) rfl (by kernel_rfl) (by kernel_rfl) (by kernel_rfl) (fun _ _ _ h => h) (Or.inl ⟨by rfl, ?_⟩) hHeld ?_
              rotate_left
              · intro w hSw
                try dsimp only at hSw
                go_simp
                try with_reducible rfl
              try simp only [Act.put, List.setIfInBounds_toArray, List.set_cons_zero, List.set_cons_succ]
              refine wpAnyH_ready (rs := [12]) (by kernel_rfl) (by simp) ?_
              refine AllReadyH.cons (o := { dst := none, op := Op.store 62 (Operand.tmp 2) (Operand.tmp 50), type := 0, pos := "ref.go:119", after := #[{ on := 10, ground := Ground.data }, { on := 6, ground := Ground.chain }, { on := 0, ground := Ground.phase }, { on := 1, ground := Ground.phase }, { on := 2, ground := Ground.phase }, { on := 3, ground := Ground.phase }, { on := 4, ground := Ground.phase }, { on := 5, ground := Ground.phase }, { on := 6, ground := Ground.phase }, { on := 7, ground := Ground.phase }, { on := 8, ground := Ground.phase }, { on := 9, ground := Ground.phase }, { on := 10, ground := Ground.phase }, { on := 11, ground := Ground.textOnly Departure.lateStores }], guard := none }) rfl (fun K hK => ?_) (AllReadyH.nil)
              rw [if_pos (by rfl)]
              refine wp_store_g 62 (.tmp 2) (.tmp 50) rfl rfl g1 0 #[.string (s.extract j s.size), .bool true] #[.string (s.extract j s.size), .bool true] rfl rfl _ _ y0 (Nat.le_refl 2) (by kernel_rfl) (by kernel_rfl) (by kernel_rfl) ?_
              refine hK.out _ _ (rd_mk (Blk.rowFar hHeld.2.2 (by omega) _)) (fun hHeld2 => ?_)
              clear hK K hHeld; have hHeld := hHeld2; clear hHeld2
              try simp only [Act.put, List.setIfInBounds_toArray, List.set_cons_zero, List.set_cons_succ]
              refine wpAnyH_take (i := 13) (oi := { dst := some 3, op := Op.assign (Operand.tmp 51), type := 2, pos := "ref.go:119", after := #[{ on := 11, ground := Ground.data }, { on := 12, ground := Ground.chain }, { on := 0, ground := Ground.phase }, { on := 1, ground := Ground.phase }, { on := 2, ground := Ground.phase }, { on := 3, ground := Ground.phase }, { on := 4, ground := Ground.phase }, { on := 5, ground := Ground.phase }, { on := 6, ground := Ground.phase }, { on := 7, ground := Ground.phase }, { on := 8, ground := Ground.phase }, { on := 9, ground := Ground.phase }, { on := 10, ground := Ground.phase }, { on := 11, ground := Ground.phase }, { on := 12, ground := Ground.phase }], guard := none }) (v := ?_) rfl (by kernel_rfl) (by kernel_rfl) (by kernel_rfl) (fun _ _ _ h => h) (Or.inl ⟨by rfl, ?_⟩) hHeld ?_
              rotate_left
              · intro w hSw
                try dsimp only at hSw
                go_simp
                try with_reducible rfl
              try simp only [Act.put, List.setIfInBounds_toArray, List.set_cons_zero, List.set_cons_succ]
              refine wpAnyH_done (by kernel_rfl) ?_ _
              go_wp2_with fail
              refine bodyPost_ret (results_rt (p := 2) (a := 3) rfl _ _ _ _ #[.string (s.extract j s.size), .bool true] (.int .i64 (N : Int)) rfl rfl (Blk.row y0 _) rfl) rfl ⟨congrArg Ending.returned HV.out, below_row hb0.drew (by omega) _⟩
            · have HV := Lib.hid (show Value.tuple #[.agg #[.string (s.extract j s.size), .bool true], .int .i64 (N : Int)] = .tuple #[rv (numR 4 ⟨L s, false⟩).2, .int .i64 ((numR 4 ⟨L s, false⟩).1 : Int)] by rw [HE2.out, HX.out, hj0]; rfl)
              have e6 : ((j : Int) == 0) = true := by simp [hj0]
              clear HE2 HX hj0
              have c0 : wr.cell? ⟨w.heap.size, 0, none⟩ = some (.string s) := x0.cell 0
              go_upto_region 5 with fail
              clear c0
              refine wp_region_held_drew (S := fun w' => w'.cell? ⟨w.heap.size, 0, none⟩ = some (.string s) ∧ w'.cell? ⟨w.heap.size, 1, none⟩ = some (.bool false) ∧ Blk w' w.heap.size 62 #[.string s, .bool false]) (by kernel_rfl) (rd_mk (show Blk wr.drew w.heap.size 62 #[.string s, .bool false] from x0)) (fun hHeld => ?_)
              refine wpAnyH_take (i := 0) (oi := { dst := some 40, op := Op.fieldAddr 62 (Operand.tmp 1) 0, type := 0, pos := "ref.go:119", after := #[], guard := none }) (v := ?_) rfl (by kernel_rfl) (by kernel_rfl) (by kernel_rfl) (fun _ _ _ h => h) (Or.inl ⟨by rfl, ?_⟩) hHeld ?_
              rotate_left
              · intro w hSw
                try dsimp only at hSw
                go_simp
                try with_reducible rfl
              try simp only [Act.put, List.setIfInBounds_toArray, List.set_cons_zero, List.set_cons_succ]
              refine wpAnyH_take (i := 1) (oi := { dst := some 41, op := Op.load 9 (Operand.tmp 40), type := 9, pos := "ref.go:119", after := #[{ on := 0, ground := Ground.data }], guard := none }) (v := ?_) rfl (by kernel_rfl) (by kernel_rfl) (by kernel_rfl) (fun _ _ _ h => h) (Or.inl ⟨by rfl, ?_⟩) hHeld ?_
              rotate_left
              · intro w hSw
                try dsimp only at hSw
                go_simp
                try with_reducible rfl
              try simp only [Act.put, List.setIfInBounds_toArray, List.set_cons_zero, List.set_cons_succ]
              refine wpAnyH_take (i := 2) (oi := { dst := some 42, op := Op.move (Operand.tmp 5), type := 3, pos := "ref.go:119", after := #[], guard := none }) (v := ?_) rfl (by kernel_rfl) (by kernel_rfl) (by kernel_rfl) (fun _ _ _ h => h) (Or.inl ⟨by rfl, ?_⟩) hHeld ?_
              rotate_left
              · intro w hSw
                try dsimp only at hSw
                go_simp
                try with_reducible rfl
              try simp only [Act.put, List.setIfInBounds_toArray, List.set_cons_zero, List.set_cons_succ]
              refine wpAnyH_take (i := 3) (oi := { dst := some 43, op := Op.slice 9 (Operand.tmp 41) (some (Operand.tmp 42)) none none, type := 9, pos := "ref.go:119", after := #[{ on := 1, ground := Ground.data }, { on := 2, ground := Ground.data }], guard := none }) (v := ?_) rfl (by kernel_rfl) (by kernel_rfl) (by kernel_rfl) (fun _ _ _ h => h) (Or.inl ⟨by rfl, ?_⟩) hHeld ?_
              rotate_left
              · intro w hSw
                try dsimp only at hSw
                go_simp
                try with_reducible rfl
              try simp only [Act.put, List.setIfInBounds_toArray, List.set_cons_zero, List.set_cons_succ]
              refine wpAnyH_take (i := 4) (oi := { dst := some 44, op := Op.fieldAddr 62 (Operand.tmp 1) 1, type := 0, pos := "ref.go:119", after := #[], guard := none }) (v := ?_) rfl (by kernel_rfl) (by kernel_rfl) (by kernel_rfl) (fun _ _ _ h => h) (Or.inl ⟨by rfl, ?_⟩) hHeld ?_
              rotate_left
              · intro w hSw
                try dsimp only at hSw
                go_simp
                try with_reducible rfl
              try simp only [Act.put, List.setIfInBounds_toArray, List.set_cons_zero, List.set_cons_succ]
              refine wpAnyH_take (i := 5) (oi := { dst := some 45, op := Op.load 4 (Operand.tmp 44), type := 4, pos := "ref.go:119", after := #[{ on := 4, ground := Ground.data }], guard := none }) (v := ?_) rfl (by kernel_rfl) (by kernel_rfl) (by kernel_rfl) (fun _ _ _ h => h) (Or.inl ⟨by rfl, ?_⟩) hHeld ?_
              rotate_left
              · intro w hSw
                try dsimp only at hSw
                go_simp
                try with_reducible rfl
              try simp only [Act.put, List.setIfInBounds_toArray, List.set_cons_zero, List.set_cons_succ]
              refine wpAnyH_take (i := 6) (oi := { dst := some 46, op := Op.move (Operand.tmp 45), type := 4, pos := "ref.go:119", after := #[{ on := 5, ground := Ground.data }], guard := none }) (v := ?_) rfl (by kernel_rfl) (by kernel_rfl) (by kernel_rfl) (fun _ _ _ h => h) (Or.inl ⟨by rfl, ?_⟩) hHeld ?_
              rotate_left
              · intro w hSw
                try dsimp only at hSw
                go_simp
                try with_reducible rfl
              try simp only [Act.put, List.setIfInBounds_toArray, List.set_cons_zero, List.set_cons_succ]
              refine wpAnyH_take (i := 7) (oi := { dst := some 47, op := Op.move (Operand.tmp 5), type := 3, pos := "ref.go:119", after := #[{ on := 6, ground := Ground.guard }], guard := some (6, false) }) (v := ?_) rfl (by kernel_rfl) (by kernel_rfl) (by kernel_rfl) (fun _ _ _ h => h) (Or.inl ⟨by rfl, ?_⟩) hHeld ?_
              rotate_left
              · intro w hSw
                try dsimp only at hSw
                go_simp
                try with_reducible rfl
              try simp only [Act.put, List.setIfInBounds_toArray, List.set_cons_zero, List.set_cons_succ]
              refine wpAnyH_take (i := 8) (oi := { dst := some 48, op := Op.binOp BinOp.eql 3 (Operand.tmp 47) (Operand.const (Value.int IntKind.i64 0)) 3, type := 4, pos := "ref.go:119", after := #[{ on := 7, ground := Ground.data }, { on := 6, ground := Ground.guard }], guard := some (6, false) }) (v := ?_) rfl (by kernel_rfl) (by kernel_rfl) (by kernel_rfl) (fun _ _ _ h => h) (Or.inl ⟨by rfl, ?_⟩) hHeld ?_
              rotate_left
              · intro w hSw
                try dsimp only at hSw
                go_simp
                try with_reducible rfl
              try simp only [Act.put, List.setIfInBounds_toArray, List.set_cons_zero, List.set_cons_succ]
              refine wpAnyH_take (i := 9) (oi := { dst := some 49, op := Op.pick (Operand.tmp 46) (Operand.const (Value.bool true)) (Operand.tmp 48), type := 4, pos := "ref.go:119", after := #[{ on := 6, ground := Ground.data }, { on := 8, ground := Ground.data }], guard := none }) (v := ?_) rfl (by kernel_rfl) (by kernel_rfl) (by kernel_rfl) (fun _ _ _ h => h) (Or.inl ⟨by rfl, ?_⟩) hHeld ?_
              rotate_left
              · intro w hSw
                try dsimp only at hSw
                go_simp
                try with_reducible rfl
              try simp only [Act.put, List.setIfInBounds_toArray, List.set_cons_zero, List.set_cons_succ]
              refine wpAnyH_take (i := 10) (oi := { dst := some 50, op := Op.build 62 #[(0, Operand.tmp 43), (1, Operand.tmp 49)], type := 62, pos := "ref.go:119", after := #[{ on := 3, ground := Ground.data }, { on := 9, ground := Ground.data }], guard := none }) (v := ?_) rfl (by kernel_rfl) (by kernel_rfl) (by kernel_rfl) (fun _ _ _ h => h) (Or.inl ⟨by rfl, ?_⟩) hHeld ?_
              rotate_left
              · intro w hSw
                try dsimp only at hSw
                go_simp
                try with_reducible rfl
              try simp only [Act.put, List.setIfInBounds_toArray, List.set_cons_zero, List.set_cons_succ]
              refine wpAnyH_take (i := 11) (oi := { dst := some 51, op := Op.move (Operand.tmp 4), type := 2, pos := "ref.go:119", after := #[{ on := 12, ground := Ground.gcOnly Departure.lateStores }], guard := none }) (v := ?_) rfl (by kernel_rfl) (by kernel_rfl) (by kernel_rfl) (fun _ _ _ h => h) (Or.inl ⟨by rfl, ?_⟩) hHeld ?_
              rotate_left
              · intro w hSw
                try dsimp only at hSw
                go_simp
                try with_reducible rfl
              try simp only [Act.put, List.setIfInBounds_toArray, List.set_cons_zero, List.set_cons_succ]
              refine wpAnyH_ready (rs := [12]) (by kernel_rfl) (by simp) ?_
              refine AllReadyH.cons (o := { dst := none, op := Op.store 62 (Operand.tmp 2) (Operand.tmp 50), type := 0, pos := "ref.go:119", after := #[{ on := 10, ground := Ground.data }, { on := 6, ground := Ground.chain }, { on := 0, ground := Ground.phase }, { on := 1, ground := Ground.phase }, { on := 2, ground := Ground.phase }, { on := 3, ground := Ground.phase }, { on := 4, ground := Ground.phase }, { on := 5, ground := Ground.phase }, { on := 6, ground := Ground.phase }, { on := 7, ground := Ground.phase }, { on := 8, ground := Ground.phase }, { on := 9, ground := Ground.phase }, { on := 10, ground := Ground.phase }, { on := 11, ground := Ground.textOnly Departure.lateStores }], guard := none }) rfl (fun K hK => ?_) (AllReadyH.nil)
              rw [if_pos (by rfl)]
              refine wp_store_g 62 (.tmp 2) (.tmp 50) rfl rfl g1 0 #[.string (s.extract j s.size), .bool true] #[.string (s.extract j s.size), .bool true] rfl rfl _ _ y0 (Nat.le_refl 2) (by kernel_rfl) (by kernel_rfl) (by kernel_rfl) ?_
              refine hK.out _ _ (rd_mk (Blk.rowFar hHeld.2.2 (by omega) _)) (fun hHeld2 => ?_)
              clear hK K hHeld; have hHeld := hHeld2; clear hHeld2
              try simp only [Act.put, List.setIfInBounds_toArray, List.set_cons_zero, List.set_cons_succ]
              refine wpAnyH_take (i := 13) (oi := { dst := some 3, op := Op.assign (Operand.tmp 51), type := 2, pos := "ref.go:119", after := #[{ on := 11, ground := Ground.data }, { on := 12, ground := Ground.chain }, { on := 0, ground := Ground.phase }, { on := 1, ground := Ground.phase }, { on := 2, ground := Ground.phase }, { on := 3, ground := Ground.phase }, { on := 4, ground := Ground.phase }, { on := 5, ground := Ground.phase }, { on := 6, ground := Ground.phase }, { on := 7, ground := Ground.phase }, { on := 8, ground := Ground.phase }, { on := 9, ground := Ground.phase }, { on := 10, ground := Ground.phase }, { on := 11, ground := Ground.phase }, { on := 12, ground := Ground.phase }], guard := none }) (v := ?_) rfl (by kernel_rfl) (by kernel_rfl) (by kernel_rfl) (fun _ _ _ h => h) (Or.inl ⟨by rfl, ?_⟩) hHeld ?_
              rotate_left
              · intro w hSw
                try dsimp only at hSw
                go_simp
                try with_reducible rfl
              try simp only [Act.put, List.setIfInBounds_toArray, List.set_cons_zero, List.set_cons_succ]
              refine wpAnyH_done (by kernel_rfl) ?_ _
              go_wp2_with fail
              refine bodyPost_ret (results_rt (p := 2) (a := 3) rfl _ _ _ _ #[.string (s.extract j s.size), .bool true] (.int .i64 (N : Int)) rfl rfl (Blk.row y0 _) rfl) rfl ⟨congrArg Ending.returned HV.out, below_row hb0.drew (by omega) _⟩
            · have HV := Lib.hid (show Value.tuple #[.agg #[.string (s.extract j s.size), .bool false], .int .i64 (N : Int)] = .tuple #[rv (numR 4 ⟨L s, false⟩).2, .int .i64 ((numR 4 ⟨L s, false⟩).1 : Int)] by rw [HE2.out, HX.out]; dsimp only; rw [show (j == 0) = false by simp [hj0], Bool.or_false])
              have e6 : ((j : Int) == 0) = false := by simp [hj0]
              clear HE2 HX hj0
              have c0 : wr.cell? ⟨w.heap.size, 0, none⟩ = some (.string s) := x0.cell 0
              go_upto_region 5 with fail
              clear c0
              refine wp_region_held_drew (S := fun w' => w'.cell? ⟨w.heap.size, 0, none⟩ = some (.string s) ∧ w'.cell? ⟨w.heap.size, 1, none⟩ = some (.bool false) ∧ Blk w' w.heap.size 62 #[.string s, .bool false]) (by kernel_rfl) (rd_mk (show Blk wr.drew w.heap.size 62 #[.string s, .bool false] from x0)) (fun hHeld => ?_)
              refine wpAnyH_take (i := 0) (oi := { dst := some 40, op := Op.fieldAddr 62 (Operand.tmp 1) 0, type := 0, pos := "ref.go:119", after := #[], guard := none }) (v := ?_) rfl (by kernel_rfl) (by kernel_rfl) (by kernel_rfl) (fun _ _ _ h => h) (Or.inl ⟨by rfl, ?_⟩) hHeld ?_
              rotate_left
              · intro w hSw
                try dsimp only at hSw
                go_simp
                try with_reducible rfl
              try simp only [Act.put, List.setIfInBounds_toArray, List.set_cons_zero, List.set_cons_succ]
              refine wpAnyH_take (i := 1) (oi := { dst := some 41, op := Op.load 9 (Operand.tmp 40), type := 9, pos := "ref.go:119", after := #[{ on := 0, ground := Ground.data }], guard := none }) (v := ?_) rfl (by kernel_rfl) (by kernel_rfl) (by kernel_rfl) (fun _ _ _ h => h) (Or.inl ⟨by rfl, ?_⟩) hHeld ?_
              rotate_left
              · intro w hSw
                try dsimp only at hSw
                go_simp
                try with_reducible rfl
              try simp only [Act.put, List.setIfInBounds_toArray, List.set_cons_zero, List.set_cons_succ]
              refine wpAnyH_take (i := 2) (oi := { dst := some 42, op := Op.move (Operand.tmp 5), type := 3, pos := "ref.go:119", after := #[], guard := none }) (v := ?_) rfl (by kernel_rfl) (by kernel_rfl) (by kernel_rfl) (fun _ _ _ h => h) (Or.inl ⟨by rfl, ?_⟩) hHeld ?_
              rotate_left
              · intro w hSw
                try dsimp only at hSw
                go_simp
                try with_reducible rfl
              try simp only [Act.put, List.setIfInBounds_toArray, List.set_cons_zero, List.set_cons_succ]
              refine wpAnyH_take (i := 3) (oi := { dst := some 43, op := Op.slice 9 (Operand.tmp 41) (some (Operand.tmp 42)) none none, type := 9, pos := "ref.go:119", after := #[{ on := 1, ground := Ground.data }, { on := 2, ground := Ground.data }], guard := none }) (v := ?_) rfl (by kernel_rfl) (by kernel_rfl) (by kernel_rfl) (fun _ _ _ h => h) (Or.inl ⟨by rfl, ?_⟩) hHeld ?_
              rotate_left
              · intro w hSw
                try dsimp only at hSw
                go_simp
                try with_reducible rfl
              try simp only [Act.put, List.setIfInBounds_toArray, List.set_cons_zero, List.set_cons_succ]
              refine wpAnyH_take (i := 4) (oi := { dst := some 44, op := Op.fieldAddr 62 (Operand.tmp 1) 1, type := 0, pos := "ref.go:119", after := #[], guard := none }) (v := ?_) rfl (by kernel_rfl) (by kernel_rfl) (by kernel_rfl) (fun _ _ _ h => h) (Or.inl ⟨by rfl, ?_⟩) hHeld ?_
              rotate_left
              · intro w hSw
                try dsimp only at hSw
                go_simp
                try with_reducible rfl
              try simp only [Act.put, List.setIfInBounds_toArray, List.set_cons_zero, List.set_cons_succ]
              refine wpAnyH_take (i := 5) (oi := { dst := some 45, op := Op.load 4 (Operand.tmp 44), type := 4, pos := "ref.go:119", after := #[{ on := 4, ground := Ground.data }], guard := none }) (v := ?_) rfl (by kernel_rfl) (by kernel_rfl) (by kernel_rfl) (fun _ _ _ h => h) (Or.inl ⟨by rfl, ?_⟩) hHeld ?_
              rotate_left
              · intro w hSw
                try dsimp only at hSw
                go_simp
                try with_reducible rfl
              try simp only [Act.put, List.setIfInBounds_toArray, List.set_cons_zero, List.set_cons_succ]
              refine wpAnyH_take (i := 6) (oi := { dst := some 46, op := Op.move (Operand.tmp 45), type := 4, pos := "ref.go:119", after := #[{ on := 5, ground := Ground.data }], guard := none }) (v := ?_) rfl (by kernel_rfl) (by kernel_rfl) (by kernel_rfl) (fun _ _ _ h => h) (Or.inl ⟨by rfl, ?_⟩) hHeld ?_
              rotate_left
              · intro w hSw
                try dsimp only at hSw
                go_simp
                try with_reducible rfl
              try simp only [Act.put, List.setIfInBounds_toArray, List.set_cons_zero, List.set_cons_succ]
              refine wpAnyH_take (i := 7) (oi := { dst := some 47, op := Op.move (Operand.tmp 5), type := 3, pos := "ref.go:119", after := #[{ on := 6, ground := Ground.guard }], guard := some (6, false) }) (v := ?_) rfl (by kernel_rfl) (by kernel_rfl) (by kernel_rfl) (fun _ _ _ h => h) (Or.inl ⟨by rfl, ?_⟩) hHeld ?_
              rotate_left
              · intro w hSw
                try dsimp only at hSw
                go_simp
                try with_reducible rfl
              try simp only [Act.put, List.setIfInBounds_toArray, List.set_cons_zero, List.set_cons_succ]
              refine wpAnyH_take (i := 8) (oi := { dst := some 48, op := Op.binOp BinOp.eql 3 (Operand.tmp 47) (Operand.const (Value.int IntKind.i64 0)) 3, type := 4, pos := "ref.go:119", after := #[{ on := 7, ground := Ground.data }, { on := 6, ground := Ground.guard }], guard := some (6, false) }) (v := ?_) rfl (by kernel_rfl) (by kernel_rfl) (by kernel_rfl) (fun _ _ _ h => h) (Or.inl ⟨by rfl, ?_⟩) hHeld ?_
              rotate_left
              · intro w hSw
                try dsimp only at hSw
                go_simp
                try with_reducible rfl
              try simp only [Act.put, List.setIfInBounds_toArray, List.set_cons_zero, List.set_cons_succ]
              refine wpAnyH_take (i := 9) (oi := { dst := some 49, op := Op.pick (Operand.tmp 46) (Operand.const (Value.bool true)) (Operand.tmp 48), type := 4, pos := "ref.go:119", after := #[{ on := 6, ground := Ground.data }, { on := 8, ground := Ground.data }], guard := none }) (v := ?_) rfl (by kernel_rfl) (by kernel_rfl) (by kernel_rfl) (fun _ _ _ h => h) (Or.inl ⟨by rfl, ?_⟩) hHeld ?_
              rotate_left
              · intro w hSw
                try dsimp only at hSw
                go_simp
                try with_reducible rfl
              try simp only [Act.put, List.setIfInBounds_toArray, List.set_cons_zero, List.set_cons_succ]
              refine wpAnyH_take (i := 10) (oi := { dst := some 50, op := Op.build 62 #[(0, Operand.tmp 43), (1, Operand.tmp 49)], type := 62, pos := "ref.go:119", after := #[{ on := 3, ground := Ground.data }, { on := 9, ground := Ground.data }], guard := none }) (v := ?_) rfl (by kernel_rfl) (by kernel_rfl) (by kernel_rfl) (fun _ _ _ h => h) (Or.inl ⟨by rfl, ?_⟩) hHeld ?_
              rotate_left
              · intro w hSw
                try dsimp only at hSw
                go_simp
                try with_reducible rfl
              try simp only [Act.put, List.setIfInBounds_toArray, List.set_cons_zero, List.set_cons_succ]
              refine wpAnyH_take (i := 11) (oi := { dst := some 51, op := Op.move (Operand.tmp 4), type := 2, pos := "ref.go:119", after := #[{ on := 12, ground := Ground.gcOnly Departure.lateStores }], guard := none }) (v := ?_) rfl (by kernel_rfl) (by kernel_rfl) (by kernel_rfl) (fun _ _ _ h => h) (Or.inl ⟨by rfl, ?_⟩) hHeld ?_
              rotate_left
              · intro w hSw
                try dsimp only at hSw
                go_simp
                try with_reducible rfl
              try simp only [Act.put, List.setIfInBounds_toArray, List.set_cons_zero, List.set_cons_succ]
              refine wpAnyH_ready (rs := [12]) (by kernel_rfl) (by simp) ?_
              refine AllReadyH.cons (o := { dst := none, op := Op.store 62 (Operand.tmp 2) (Operand.tmp 50), type := 0, pos := "ref.go:119", after := #[{ on := 10, ground := Ground.data }, { on := 6, ground := Ground.chain }, { on := 0, ground := Ground.phase }, { on := 1, ground := Ground.phase }, { on := 2, ground := Ground.phase }, { on := 3, ground := Ground.phase }, { on := 4, ground := Ground.phase }, { on := 5, ground := Ground.phase }, { on := 6, ground := Ground.phase }, { on := 7, ground := Ground.phase }, { on := 8, ground := Ground.phase }, { on := 9, ground := Ground.phase }, { on := 10, ground := Ground.phase }, { on := 11, ground := Ground.textOnly Departure.lateStores }], guard := none }) rfl (fun K hK => ?_) (AllReadyH.nil)
              rw [if_pos (by rfl)]
              refine wp_store_g 62 (.tmp 2) (.tmp 50) rfl rfl g1 0 #[.string (s.extract j s.size), .bool false] #[.string (s.extract j s.size), .bool false] rfl rfl _ _ y0 (Nat.le_refl 2) (by kernel_rfl) (by kernel_rfl) (by kernel_rfl) ?_
              refine hK.out _ _ (rd_mk (Blk.rowFar hHeld.2.2 (by omega) _)) (fun hHeld2 => ?_)
              clear hK K hHeld; have hHeld := hHeld2; clear hHeld2
              try simp only [Act.put, List.setIfInBounds_toArray, List.set_cons_zero, List.set_cons_succ]
              refine wpAnyH_take (i := 13) (oi := { dst := some 3, op := Op.assign (Operand.tmp 51), type := 2, pos := "ref.go:119", after := #[{ on := 11, ground := Ground.data }, { on := 12, ground := Ground.chain }, { on := 0, ground := Ground.phase }, { on := 1, ground := Ground.phase }, { on := 2, ground := Ground.phase }, { on := 3, ground := Ground.phase }, { on := 4, ground := Ground.phase }, { on := 5, ground := Ground.phase }, { on := 6, ground := Ground.phase }, { on := 7, ground := Ground.phase }, { on := 8, ground := Ground.phase }, { on := 9, ground := Ground.phase }, { on := 10, ground := Ground.phase }, { on := 11, ground := Ground.phase }, { on := 12, ground := Ground.phase }], guard := none }) (v := ?_) rfl (by kernel_rfl) (by kernel_rfl) (by kernel_rfl) (fun _ _ _ h => h) (Or.inl ⟨by rfl, ?_⟩) hHeld ?_
              rotate_left
              · intro w hSw
                try dsimp only at hSw
                go_simp
                try with_reducible rfl
              try simp only [Act.put, List.setIfInBounds_toArray, List.set_cons_zero, List.set_cons_succ]
              refine wpAnyH_done (by kernel_rfl) ?_ _
              go_wp2_with fail
              refine bodyPost_ret (results_rt (p := 2) (a := 3) rfl _ _ _ _ #[.string (s.extract j s.size), .bool false] (.int .i64 (N : Int)) rfl rfl (Blk.row y0 _) rfl) rfl ⟨congrArg Ending.returned HV.out, below_row hb0.drew (by omega) _⟩
          · have f1 : (48 : Int) ≤ (s[j].toNat : Int) := by omega
            have f2 : ¬ (s[j].toNat : Int) ≤ 57 := by omega
            clear q q2
            have HBC : bad = true ∨ (bad = false ∧ j = 0) ∨ (bad = false ∧ j ≠ 0) := by cases bad <;> by_cases q : j = 0 <;> simp [q]
            rcases HBC with rfl | ⟨rfl, hj0⟩ | ⟨rfl, hj0⟩
            · have HV := Lib.hid (show Value.tuple #[.agg #[.string (s.extract j s.size), .bool true], .int .i64 (N : Int)] = .tuple #[rv (numR 4 ⟨L s, true⟩).2, .int .i64 ((numR 4 ⟨L s, true⟩).1 : Int)] by rw [HE2.out, HX.out]; rfl)
              clear HE2 HX
              have c0 : wr.cell? ⟨w.heap.size, 0, none⟩ = some (.string s) := x0.cell 0
              go_upto_region 5 with fail
              clear c0
              refine wp_region_held_drew (S := fun w' => w'.cell? ⟨w.heap.size, 0, none⟩ = some (.string s) ∧ w'.cell? ⟨w.heap.size, 1, none⟩ = some (.bool true) ∧ Blk w' w.heap.size 62 #[.string s, .bool true]) (by kernel_rfl) (rd_mk (show Blk wr.drew w.heap.size 62 #[.string s, .bool true] from x0)) (fun hHeld => ?_)
              refine wpAnyH_take (i := 0) (oi := { dst := some 40, op := Op.fieldAddr 62 (Operand.tmp 1) 0, type := 0, pos := "ref.go:119", after := #[], guard := none }) (v := ?_) rfl (by kernel_rfl) (by kernel_rfl) (by kernel_rfl) (fun _ _ _ h => h) (Or.inl ⟨by rfl, ?_⟩) hHeld ?_
              rotate_left
              · intro w hSw
                try dsimp only at hSw
                go_simp
                try with_reducible rfl
              try simp only [Act.put, List.setIfInBounds_toArray, List.set_cons_zero, List.set_cons_succ]
              refine wpAnyH_take (i := 1) (oi := { dst := some 41, op := Op.load 9 (Operand.tmp 40), type := 9, pos := "ref.go:119", after := #[{ on := 0, ground := Ground.data }], guard := none }) (v := ?_) rfl (by kernel_rfl) (by kernel_rfl) (by kernel_rfl) (fun _ _ _ h => h) (Or.inl ⟨by rfl, ?_⟩) hHeld ?_
              rotate_left
              · intro w hSw
                try dsimp only at hSw
                go_simp
                try with_reducible rfl
              try simp only [Act.put, List.setIfInBounds_toArray, List.set_cons_zero, List.set_cons_succ]
              refine wpAnyH_take (i := 2) (oi := { dst := some 42, op := Op.move (Operand.tmp 5), type := 3, pos := "ref.go:119", after := #[], guard := none }) (v := ?_) rfl (by kernel_rfl) (by kernel_rfl) (by kernel_rfl) (fun _ _ _ h => h) (Or.inl ⟨by rfl, ?_⟩) hHeld ?_
              rotate_left
              · intro w hSw
                try dsimp only at hSw
                go_simp
                try with_reducible rfl
              try simp only [Act.put, List.setIfInBounds_toArray, List.set_cons_zero, List.set_cons_succ]
              refine wpAnyH_take (i := 3) (oi := { dst := some 43, op := Op.slice 9 (Operand.tmp 41) (some (Operand.tmp 42)) none none, type := 9, pos := "ref.go:119", after := #[{ on := 1, ground := Ground.data }, { on := 2, ground := Ground.data }], guard := none }) (v := ?_) rfl (by kernel_rfl) (by kernel_rfl) (by kernel_rfl) (fun _ _ _ h => h) (Or.inl ⟨by rfl, ?_⟩) hHeld ?_
              rotate_left
              · intro w hSw
                try dsimp only at hSw
                go_simp
                try with_reducible rfl
              try simp only [Act.put, List.setIfInBounds_toArray, List.set_cons_zero, List.set_cons_succ]
              refine wpAnyH_take (i := 4) (oi := { dst := some 44, op := Op.fieldAddr 62 (Operand.tmp 1) 1, type := 0, pos := "ref.go:119", after := #[], guard := none }) (v := ?_) rfl (by kernel_rfl) (by kernel_rfl) (by kernel_rfl) (fun _ _ _ h => h) (Or.inl ⟨by rfl, ?_⟩) hHeld ?_
              rotate_left
              · intro w hSw
                try dsimp only at hSw
                go_simp
                try with_reducible rfl
              try simp only [Act.put, List.setIfInBounds_toArray, List.set_cons_zero, List.set_cons_succ]
              refine wpAnyH_take (i := 5) (oi := { dst := some 45, op := Op.load 4 (Operand.tmp 44), type := 4, pos := "ref.go:119", after := #[{ on := 4, ground := Ground.data }], guard := none }) (v := ?_) rfl (by kernel_rfl) (by kernel_rfl) (by kernel_rfl) (fun _ _ _ h => h) (Or.inl ⟨by rfl, ?_⟩) hHeld ?_
              rotate_left
              · intro w hSw
                try dsimp only at hSw
                go_simp
                try with_reducible rfl
              try simp only [Act.put, List.setIfInBounds_toArray, List.set_cons_zero, List.set_cons_succ]
              refine wpAnyH_take (i := 6) (oi := { dst := some 46, op := Op.move (Operand.tmp 45), type := 4, pos := "ref.go:119", after := #[{ on := 5, ground := Ground.data }], guard := none }) (v := ?_) rfl (by kernel_rfl) (by kernel_rfl) (by kernel_rfl) (fun _ _ _ h => h) (Or.inl ⟨by rfl, ?_⟩) hHeld ?_
              rotate_left
              · intro w hSw
                try dsimp only at hSw
                go_simp
                try with_reducible rfl
              try simp only [Act.put, List.setIfInBounds_toArray, List.set_cons_zero, List.set_cons_succ]
              refine wpAnyH_take (i := 7) (oi := { dst := some 47, op := Op.move (Operand.tmp 5), type := 3, pos := "ref.go:119", after := #[{ on := 6, ground := Ground.guard }], guard := some (6, false) }) (v := undef) rfl (by kernel_rfl) (by kernel_rfl) (by kernel_rfl) (fun _ _ _ h => h) (Or.inr ⟨by rfl, rfl⟩) hHeld ?_
              try simp only [Act.put, List.setIfInBounds_toArray, List.set_cons_zero, List.set_cons_succ]
              refine wpAnyH_take (i := 8) (oi := { dst := some 48, op := Op.binOp BinOp.eql 3 (Operand.tmp 47) (Operand.const (Value.int IntKind.i64 0)) 3, type := 4, pos := "ref.go:119", after := #[{ on := 7, ground := Ground.data }, { on := 6, ground := Ground.guard }], guard := some (6, false) }) (v := undef) rfl (by kernel_rfl) (by kernel_rfl) (by kernel_rfl) (fun _ _ _ h => h) (Or.inr ⟨by rfl, rfl⟩) hHeld ?_
              try simp only [Act.put, List.setIfInBounds_toArray, List.set_cons_zero, List.set_cons_succ]
              refine wpAnyH_take (i := 9) (oi := { dst := some 49, op := Op.pick (Operand.tmp 46) (Operand.const (Value.bool true)) (Operand.tmp 48), type := 4, pos := "ref.go:119", after := #[{ on := 6, ground := Ground.data }, { on := 8, ground := Ground.data }], guard := none }) (v := ?_) rfl (by kernel_rfl) (by kernel_rfl) (by kernel_rfl) (fun _ _ _ h => h) (Or.inl ⟨by rfl, ?_⟩) hHeld ?_
              rotate_left
              · intro w hSw
                try dsimp only at hSw
                go_simp
                try with_reducible rfl
              try simp only [Act.put, List.setIfInBounds_toArray, List.set_cons_zero, List.set_cons_succ]
              refine wpAnyH_take (i := 10) (oi := { dst := some 50, op := Op.build 62 #[(0, Operand.tmp 43), (1, Operand.tmp 49)], type := 62, pos := "ref.go:119", after := #[{ on := 3, ground := Ground.data }, { on := 9, ground := Ground.data }], guard := none }) (v := ?_) rfl (by kernel_rfl) (by kernel_rfl) (by kernel_rfl) (fun _ _ _ h => h) (Or.inl ⟨by rfl, ?_⟩) hHeld ?_
              rotate_left
              · intro w hSw
                try dsimp only at hSw
                go_simp
                try with_reducible rfl
              try simp only [Act.put, List.setIfInBounds_toArray, List.set_cons_zero, List.set_cons_succ]
              refine wpAnyH_take (i := 11) (oi := { dst := some 51, op := Op.move (Operand.tmp 4), type := 2, pos := "ref.go:119", after := #[{ on := 12, ground := Ground.gcOnly Departure.lateStores }], guard := none }) (v := ?_) rfl (by kernel_rfl) (by kernel_rfl) (by kernel_rfl) (fun _ _ _ h => h) (Or.inl ⟨by rfl, ?_⟩) hHeld ?_
              rotate_left
              · intro w hSw
                try dsimp only at hSw
                go_simp
                try with_reducible rfl
              try simp only [Act.put, List.setIfInBounds_toArray, List.set_cons_zero, List.set_cons_succ]
              refine wpAnyH_ready (rs := [12]) (by kernel_rfl) (by simp) ?_
              refine AllReadyH.cons (o := { dst := none, op := Op.store 62 (Operand.tmp 2) (Operand.tmp 50), type := 0, pos := "ref.go:119", after := #[{ on := 10, ground := Ground.data }, { on := 6, ground := Ground.chain }, { on := 0, ground := Ground.phase }, { on := 1, ground := Ground.phase }, { on := 2, ground := Ground.phase }, { on := 3, ground := Ground.phase }, { on := 4, ground := Ground.phase }, { on := 5, ground := Ground.phase }, { on := 6, ground := Ground.phase }, { on := 7, ground := Ground.phase }, { on := 8, ground := Ground.phase }, { on := 9, ground := Ground.phase }, { on := 10, ground := Ground.phase }, { on := 11, ground := Ground.textOnly Departure.lateStores }], guard := none }) rfl (fun K hK => ?_) (AllReadyH.nil)
              rw [if_pos (by rfl)]
              refine wp_store_g 62 (.tmp 2) (.tmp 50) rfl rfl g1 0 #[.string (s.extract j s.size), .bool true] #[.string (s.extract j s.size), .bool true] rfl rfl _ _ y0 (Nat.le_refl 2) (by kernel_rfl) (by kernel_rfl) (by kernel_rfl) ?_
              refine hK.out _ _ (rd_mk (Blk.rowFar hHeld.2.2 (by omega) _)) (fun hHeld2 => ?_)
              clear hK K hHeld; have hHeld := hHeld2; clear hHeld2
              try simp only [Act.put, List.setIfInBounds_toArray, List.set_cons_zero, List.set_cons_succ]
              refine wpAnyH_take (i := 13) (oi := { dst := some 3, op := Op.assign (Operand.tmp 51), type := 2, pos := "ref.go:119", after := #[{ on := 11, ground := Ground.data }, { on := 12, ground := Ground.chain }, { on := 0, ground := Ground.phase }, { on := 1, ground := Ground.phase }, { on := 2, ground := Ground.phase }, { on := 3, ground := Ground.phase }, { on := 4, ground := Ground.phase }, { on := 5, ground := Ground.phase }, { on := 6, ground := Ground.phase }, { on := 7, ground := Ground.phase }, { on := 8, ground := Ground.phase }, { on := 9, ground := Ground.phase }, { on := 10, ground := Ground.phase }, { on := 11, ground := Ground.phase }, { on := 12, ground := Ground.phase }], guard := none }) (v := ?_) rfl (by kernel_rfl) (by kernel_rfl) (by kernel_rfl) (fun _ _ _ h => h) (Or.inl ⟨by rfl, ?_⟩) hHeld ?_
              rotate_left
              · intro w hSw
                try dsimp only at hSw
                go_simp
                try with_reducible rfl
              try simp only [Act.put, List.setIfInBounds_toArray, List.set_cons_zero, List.set_cons_succ]
              refine wpAnyH_done (by kernel_rfl) ?_ _
              go_wp2_with fail
              refine bodyPost_ret (results_rt (p := 2) (a := 3) rfl _ _ _ _ #[.string (s.extract j s.size), .bool true] (.int .i64 (N : Int)) rfl rfl (Blk.row y0 _) rfl) rfl ⟨congrArg Ending.returned HV.out, below_row hb0.drew (by omega) _⟩
            · have HV := Lib.hid (show Value.tuple #[.agg #[.string (s.extract j s.size), .bool true], .int .i64 (N : Int)] = .tuple #[rv (numR 4 ⟨L s, false⟩).2, .int .i64 ((numR 4 ⟨L s, false⟩).1 : Int)] by rw [HE2.out, HX.out, hj0]; rfl)
              have e6 : ((j : Int) == 0) = true := by simp [hj0]
              clear HE2 HX hj0
              have c0 : wr.cell? ⟨w.heap.size, 0, none⟩ = some (.string s) := x0.cell 0
              go_upto_region 5 with fail
              clear c0
              refine wp_region_held_drew (S := fun w' => w'.cell? ⟨w.heap.size, 0, none⟩ = some (.string s) ∧ w'.cell? ⟨w.heap.size, 1, none⟩ = some (.bool false) ∧ Blk w' w.heap.size 62 #[.string s, .bool false]) (by kernel_rfl) (rd_mk (show Blk wr.drew w.heap.size 62 #[.string s, .bool false] from x0)) (fun hHeld => ?_)
              refine wpAnyH_take (i := 0) (oi := { dst := some 40, op := Op.fieldAddr 62 (Operand.tmp 1) 0, type := 0, pos := "ref.go:119", after := #[], guard := none }) (v := ?_) rfl (by kernel_rfl) (by kernel_rfl) (by kernel_rfl) (fun _ _ _ h => h) (Or.inl ⟨by rfl, ?_⟩) hHeld ?_
              rotate_left
              · intro w hSw
                try dsimp only at hSw
                go_simp
                try with_reducible rfl
              try simp only [Act.put, List.setIfInBounds_toArray, List.set_cons_zero, List.set_cons_succ]
              refine wpAnyH_take (i := 1) (oi := { dst := some 41, op := Op.load 9 (Operand.tmp 40), type := 9, pos := "ref.go:119", after := #[{ on := 0, ground := Ground.data }], guard := none }) (v := ?_) rfl (by kernel_rfl) (by kernel_rfl) (by kernel_rfl) (fun _ _ _ h => h) (Or.inl ⟨by rfl, ?_⟩) hHeld ?_
              rotate_left
              · intro w hSw
                try dsimp only at hSw
                go_simp
                try with_reducible rfl
              try simp only [Act.put, List.setIfInBounds_toArray, List.set_cons_zero, List.set_cons_succ]
              refine wpAnyH_take (i := 2) (oi := { dst := some 42, op := Op.move (Operand.tmp 5), type := 3, pos := "ref.go:119", after := #[], guard := none }) (v := ?_) rfl (by kernel_rfl) (by kernel_rfl) (by kernel_rfl) (fun _ _ _ h => h) (Or.inl ⟨by rfl, ?_⟩) hHeld ?_
              rotate_left
              · intro w hSw
                try dsimp only at hSw
                go_simp
                try with_reducible rfl
              try simp only [Act.put, List.setIfInBounds_toArray, List.set_cons_zero, List.set_cons_succ]
              refine wpAnyH_take (i := 3) (oi := { dst := some 43, op := Op.slice 9 (Operand.tmp 41) (some (Operand.tmp 42)) none none, type := 9, pos := "ref.go:119", after := #[{ on := 1, ground := Ground.data }, { on := 2, ground := Ground.data }], guard := none }) (v := ?_) rfl (by kernel_rfl) (by kernel_rfl) (by kernel_rfl) (fun _ _ _ h => h) (Or.inl ⟨by rfl, ?_⟩) hHeld ?_
              rotate_left
              · intro w hSw
                try dsimp only at hSw
                go_simp
                try with_reducible rfl
              try simp only [Act.put, List.setIfInBounds_toArray, List.set_cons_zero, List.set_cons_succ]
              refine wpAnyH_take (i := 4) (oi := { dst := some 44, op := Op.fieldAddr 62 (Operand.tmp 1) 1, type := 0, pos := "ref.go:119", after := #[], guard := none }) (v := ?_) rfl (by kernel_rfl) (by kernel_rfl) (by kernel_rfl) (fun _ _ _ h => h) (Or.inl ⟨by rfl, ?_⟩) hHeld ?_
              rotate_left
              · intro w hSw
                try dsimp only at hSw
                go_simp
                try with_reducible rfl
              try simp only [Act.put, List.setIfInBounds_toArray, List.set_cons_zero, List.set_cons_succ]
              refine wpAnyH_take (i := 5) (oi := { dst := some 45, op := Op.load 4 (Operand.tmp 44), type := 4, pos := "ref.go:119", after := #[{ on := 4, ground := Ground.data }], guard := none }) (v := ?_) rfl (by kernel_rfl) (by kernel_rfl) (by kernel_rfl) (fun _ _ _ h => h) (Or.inl ⟨by rfl, ?_⟩) hHeld ?_
              rotate_left
              · intro w hSw
                try dsimp only at hSw
                go_simp
                try with_reducible rfl
              try simp only [Act.put, List.setIfInBounds_toArray, List.set_cons_zero, List.set_cons_succ]
              refine wpAnyH_take (i := 6) (oi := { dst := some 46, op := Op.move (Operand.tmp 45), type := 4, pos := "ref.go:119", after := #[{ on := 5, ground := Ground.data }], guard := none }) (v := ?_) rfl (by kernel_rfl) (by kernel_rfl) (by kernel_rfl) (fun _ _ _ h => h) (Or.inl ⟨by rfl, ?_⟩) hHeld ?_
              rotate_left
              · intro w hSw
                try dsimp only at hSw
                go_simp
                try with_reducible rfl
              try simp only [Act.put, List.setIfInBounds_toArray, List.set_cons_zero, List.set_cons_succ]
              refine wpAnyH_take (i := 7) (oi := { dst := some 47, op := Op.move (Operand.tmp 5), type := 3, pos := "ref.go:119", after := #[{ on := 6, ground := Ground.guard }], guard := some (6, false) }) (v := ?_) rfl (by kernel_rfl) (by kernel_rfl) (by kernel_rfl) (fun _ _ _ h => h) (Or.inl ⟨by rfl, ?_⟩) hHeld ?_
              rotate_left
              · intro w hSw
                try dsimp only at hSw
                go_simp
                try with_reducible rfl
              try simp only [Act.put, List.setIfInBounds_toArray, List.set_cons_zero, List.set_cons_succ]
              refine wpAnyH_take (i := 8) (oi := { dst := some 48, op := Op.binOp BinOp.eql 3 (Operand.tmp 47) (Operand.const (Value.int IntKind.i64 0)) 3, type := 4, pos := "ref.go:119", after := #[{ on := 7, ground := Ground.data }, { on := 6, ground := Ground.guard }], guard := some (6, false) }) (v := ?_) rfl (by kernel_rfl) (by kernel_rfl) (by kernel_rfl) (fun _ _ _ h => h) (Or.inl ⟨by rfl, ?_⟩) hHeld ?_
              rotate_left
              · intro w hSw
                try dsimp only at hSw
                go_simp
                try with_reducible rfl
              try simp only [Act.put, List.setIfInBounds_toArray, List.set_cons_zero, List.set_cons_succ]
              refine wpAnyH_take (i := 9) (oi := { dst := some 49, op := Op.pick (Operand.tmp 46) (Operand.const (Value.bool true)) (Operand.tmp 48), type := 4, pos := "ref.go:119", after := #[{ on := 6, ground := Ground.data }, { on := 8, ground := Ground.data }], guard := none }) (v := ?_) rfl (by kernel_rfl) (by kernel_rfl) (by kernel_rfl) (fun _ _ _ h => h) (Or.inl ⟨by rfl, ?_⟩) hHeld ?_
              rotate_left
              · intro w hSw
                try dsimp only at hSw
                go_simp
                try with_reducible rfl
              try simp only [Act.put, List.setIfInBounds_toArray, List.set_cons_zero, List.set_cons_succ]
              refine wpAnyH_take (i := 10) (oi := { dst := some 50, op := Op.build 62 #[(0, Operand.tmp 43), (1, Operand.tmp 49)], type := 62, pos := "ref.go:119", after := #[{ on := 3, ground := Ground.data }, { on := 9, ground := Ground.data }], guard := none }) (v := ?_) rfl (by kernel_rfl) (by kernel_rfl) (by kernel_rfl) (fun _ _ _ h => h) (Or.inl ⟨by rfl, ?_⟩) hHeld ?_
              rotate_left
              · intro w hSw
                try dsimp only at hSw
                go_simp
                try with_reducible rfl
              try simp only [Act.put, List.setIfInBounds_toArray, List.set_cons_zero, List.set_cons_succ]
              refine wpAnyH_take (i := 11) (oi := { dst := some 51, op := Op.move (Operand.tmp 4), type := 2, pos := "ref.go:119", after := #[{ on := 12, ground := Ground.gcOnly Departure.lateStores }], guard := none }) (v := ?_) rfl (by kernel_rfl) (by kernel_rfl) (by kernel_rfl) (fun _ _ _ h => h) (Or.inl ⟨by rfl, ?_⟩) hHeld ?_
              rotate_left
              · intro w hSw
                try dsimp only at hSw
                go_simp
                try with_reducible rfl
              try simp only [Act.put, List.setIfInBounds_toArray, List.set_cons_zero, List.set_cons_succ]
              refine wpAnyH_ready (rs := [12]) (by kernel_rfl) (by simp) ?_
              refine AllReadyH.cons (o := { dst := none, op := Op.store 62 (Operand.tmp 2) (Operand.tmp 50), type := 0, pos := "ref.go:119", after := #[{ on := 10, ground := Ground.data }, { on := 6, ground := Ground.chain }, { on := 0, ground := Ground.phase }, { on := 1, ground := Ground.phase }, { on := 2, ground := Ground.phase }, { on := 3, ground := Ground.phase }, { on := 4, ground := Ground.phase }, { on := 5, ground := Ground.phase }, { on := 6, ground := Ground.phase }, { on := 7, ground := Ground.phase }, { on := 8, ground := Ground.phase }, { on := 9, ground := Ground.phase }, { on := 10, ground := Ground.phase }, { on := 11, ground := Ground.textOnly Departure.lateStores }], guard := none }) rfl (fun K hK => ?_) (AllReadyH.nil)
              rw [if_pos (by rfl)]
              refine wp_store_g 62 (.tmp 2) (.tmp 50) rfl rfl g1 0 #[.string (s.extract j s.size), .bool true] #[.string (s.extract j s.size), .bool true] rfl rfl _ _ y0 (Nat.le_refl 2) (by kernel_rfl) (by kernel_rfl) (by kernel_rfl) ?_
              refine hK.out _ _ (rd_mk (Blk.rowFar hHeld.2.2 (by omega) _)) (fun hHeld2 => ?_)
              clear hK K hHeld; have hHeld := hHeld2; clear hHeld2
              try simp only [Act.put, List.setIfInBounds_toArray, List.set_cons_zero, List.set_cons_succ]
              refine wpAnyH_take (i := 13) (oi := { dst := some 3, op := Op.assign (Operand.tmp 51), type := 2, pos := "ref.go:119", after := #[{ on := 11, ground := Ground.data }, { on := 12, ground := Ground.chain }, { on := 0, ground := Ground.phase }, { on := 1, ground := Ground.phase }, { on := 2, ground := Ground.phase }, { on := 3, ground := Ground.phase }, { on := 4, ground := Ground.phase }, { on := 5, ground := Ground.phase }, { on := 6, ground := Ground.phase }, { on := 7, ground := Ground.phase }, { on := 8, ground := Ground.phase }, { on := 9, ground := Ground.phase }, { on := 10, ground := Ground.phase }, { on := 11, ground := Ground.phase }, { on := 12, ground := Ground.phase }], guard := none }) (v := ?_) rfl (by kernel_rfl) (by kernel_rfl) (by kernel_rfl) (fun _ _ _ h => h) (Or.inl ⟨by rfl, ?_⟩) hHeld ?_
              rotate_left
              · intro w hSw
                try dsimp only at hSw
                go_simp
                try with_reducible rfl
              try simp only [Act.put, List.setIfInBounds_toArray, List.set_cons_zero, List.set_cons_succ]
              refine wpAnyH_done (by kernel_rfl) ?_ _
              go_wp2_with fail
              refine bodyPost_ret (results_rt (p := 2) (a := 3) rfl _ _ _ _ #[.string (s.extract j s.size), .bool true] (.int .i64 (N : Int)) rfl rfl (Blk.row y0 _) rfl) rfl ⟨congrArg Ending.returned HV.out, below_row hb0.drew (by omega) _⟩
            · have HV := Lib.hid (show Value.tuple #[.agg #[.string (s.extract j s.size), .bool false], .int .i64 (N : Int)] = .tuple #[rv (numR 4 ⟨L s, false⟩).2, .int .i64 ((numR 4 ⟨L s, false⟩).1 : Int)] by rw [HE2.out, HX.out]; dsimp only; rw [show (j == 0) = false by simp [hj0], Bool.or_false])
              have e6 : ((j : Int) == 0) = false := by simp [hj0]
              clear HE2 HX hj0
              have c0 : wr.cell? ⟨w.heap.size, 0, none⟩ = some (.string s) := x0.cell 0
              go_upto_region 5 with fail
              clear c0
              refine wp_region_held_drew (S := fun w' => w'.cell? ⟨w.heap.size, 0, none⟩ = some (.string s) ∧ w'.cell? ⟨w.heap.size, 1, none⟩ = some (.bool false) ∧ Blk w' w.heap.size 62 #[.string s, .bool false]) (by kernel_rfl) (rd_mk (show Blk wr.drew w.heap.size 62 #[.string s, .bool false] from x0)) (fun hHeld => ?_)
              refine wpAnyH_take (i := 0) (oi := { dst := some 40, op := Op.fieldAddr 62 (Operand.tmp 1) 0, type := 0, pos := "ref.go:119", after := #[], guard := none }) (v := ?_) rfl (by kernel_rfl) (by kernel_rfl) (by kernel_rfl) (fun _ _ _ h => h) (Or.inl ⟨by rfl, ?_⟩) hHeld ?_
              rotate_left
              · intro w hSw
                try dsimp only at hSw
                go_simp
                try with_reducible rfl
              try simp only [Act.put, List.setIfInBounds_toArray, List.set_cons_zero, List.set_cons_succ]
              refine wpAnyH_take (i := 1) (oi := { dst := some 41, op := Op.load 9 (Operand.tmp 40), type := 9, pos := "ref.go:119", after := #[{ on := 0, ground := Ground.data }], guard := none }) (v := ?_) rfl (by kernel_rfl) (by kernel_rfl) (by kernel_rfl) (fun _ _ _ h => h) (Or.inl ⟨by rfl, ?_⟩) hHeld ?_
              rotate_left
              · intro w hSw
                try dsimp only at hSw
                go_simp
                try with_reducible rfl
              try simp only [Act.put, List.setIfInBounds_toArray, List.set_cons_zero, List.set_cons_succ]
              refine wpAnyH_take (i := 2) (oi := { dst := some 42, op := Op.move (Operand.tmp 5), type := 3, pos := "ref.go:119", after := #[], guard := none }) (v := ?_) rfl (by kernel_rfl) (by kernel_rfl) (by kernel_rfl) (fun _ _ _ h => h) (Or.inl ⟨by rfl, ?_⟩) hHeld ?_
              rotate_left
              · intro w hSw
                try dsimp only at hSw
                go_simp
                try with_reducible rfl
              try simp only [Act.put, List.setIfInBounds_toArray, List.set_cons_zero, List.set_cons_succ]
              refine wpAnyH_take (i := 3) (oi := { dst := some 43, op := Op.slice 9 (Operand.tmp 41) (some (Operand.tmp 42)) none none, type := 9, pos := "ref.go:119", after := #[{ on := 1, ground := Ground.data }, { on := 2, ground := Ground.data }], guard := none }) (v := ?_) rfl (by kernel_rfl) (by kernel_rfl) (by kernel_rfl) (fun _ _ _ h => h) (Or.inl ⟨by rfl, ?_⟩) hHeld ?_
              rotate_left
              · intro w hSw
                try dsimp only at hSw
                go_simp
                try with_reducible rfl
              try simp only [Act.put, List.setIfInBounds_toArray, List.set_cons_zero, List.set_cons_succ]
              refine wpAnyH_take (i := 4) (oi := { dst := some 44, op := Op.fieldAddr 62 (Operand.tmp 1) 1, type := 0, pos := "ref.go:119", after := #[], guard := none }) (v := ?_) rfl (by kernel_rfl) (by kernel_rfl) (by kernel_rfl) (fun _ _ _ h => h) (Or.inl ⟨by rfl, ?_⟩) hHeld ?_
              rotate_left
              · intro w hSw
                try dsimp only at hSw
                go_simp
                try with_reducible rfl
              try simp only [Act.put, List.setIfInBounds_toArray, List.set_cons_zero, List.set_cons_succ]
              refine wpAnyH_take (i := 5) (oi := { dst := some 45, op := Op.load 4 (Operand.tmp 44), type := 4, pos := "ref.go:119", after := #[{ on := 4, ground := Ground.data }], guard := none }) (v := ?_) rfl (by kernel_rfl) (by kernel_rfl) (by kernel_rfl) (fun _ _ _ h => h) (Or.inl ⟨by rfl, ?_⟩) hHeld ?_
              rotate_left
              · intro w hSw
                try dsimp only at hSw
                go_simp
                try with_reducible rfl
              try simp only [Act.put, List.setIfInBounds_toArray, List.set_cons_zero, List.set_cons_succ]
              refine wpAnyH_take (i := 6) (oi := { dst := some 46, op := Op.move (Operand.tmp 45), type := 4, pos := "ref.go:119", after := #[{ on := 5, ground := Ground.data }], guard := none }) (v := ?_) rfl (by kernel_rfl) (by kernel_rfl) (by kernel_rfl) (fun _ _ _ h => h) (Or.inl ⟨by rfl, ?_⟩) hHeld ?_
              rotate_left
              · intro w hSw
                try dsimp only at hSw
                go_simp
                try with_reducible rfl
              try simp only [Act.put, List.setIfInBounds_toArray, List.set_cons_zero, List.set_cons_succ]
              refine wpAnyH_take (i := 7) (oi := { dst := some 47, op := Op.move (Operand.tmp 5), type := 3, pos := "ref.go:119", after := #[{ on := 6, ground := Ground.guard }], guard := some (6, false) }) (v := ?_) rfl (by kernel_rfl) (by kernel_rfl) (by kernel_rfl) (fun _ _ _ h => h) (Or.inl ⟨by rfl, ?_⟩) hHeld ?_
              rotate_left
              · intro w hSw
                try dsimp only at hSw
                go_simp
                try with_reducible rfl
              try simp only [Act.put, List.setIfInBounds_toArray, List.set_cons_zero, List.set_cons_succ]
              refine wpAnyH_take (i := 8) (oi := { dst := some 48, op := Op.binOp BinOp.eql 3 (Operand.tmp 47) (Operand.const (Value.int IntKind.i64 0)) 3, type := 4, pos := "ref.go:119", after := #[{ on := 7, ground := Ground.data }, { on := 6, ground := Ground.guard }], guard := some (6, false) }) (v := ?_) rfl (by kernel_rfl) (by kernel_rfl) (by kernel_rfl) (fun _ _ _ h => h) (Or.inl ⟨by rfl, ?_⟩) hHeld ?_
              rotate_left
              · intro w hSw
                try dsimp only at hSw
                go_simp
                try with_reducible rfl
              try simp only [Act.put, List.setIfInBounds_toArray, List.set_cons_zero, List.set_cons_succ]
              refine wpAnyH_take (i := 9) (oi := { dst := some 49, op := Op.pick (Operand.tmp 46) (Operand.const (Value.bool true)) (Operand.tmp 48), type := 4, pos := "ref.go:119", after := #[{ on := 6, ground := Ground.data }, { on := 8, ground := Ground.data }], guard := none }) (v := ?_) rfl (by kernel_rfl) (by kernel_rfl) (by kernel_rfl) (fun _ _ _ h => h) (Or.inl ⟨by rfl, ?_⟩) hHeld ?_
              rotate_left
              · intro w hSw
                try dsimp only at hSw
                go_simp
                try with_reducible rfl
              try simp only [Act.put, List.setIfInBounds_toArray, List.set_cons_zero, List.set_cons_succ]
              refine wpAnyH_take (i := 10) (oi := { dst := some 50, op := Op.build 62 #[(0, Operand.tmp 43), (1, Operand.tmp 49)], type := 62, pos := "ref.go:119", after := #[{ on := 3, ground := Ground.data }, { on := 9, ground := Ground.data }], guard := none }) (v := ?_) rfl (by kernel_rfl) (by kernel_rfl) (by kernel_rfl) (fun _ _ _ h => h) (Or.inl ⟨by rfl, ?_⟩) hHeld ?_
              rotate_left
              · intro w hSw
                try dsimp only at hSw
                go_simp
                try with_reducible rfl
              try simp only [Act.put, List.setIfInBounds_toArray, List.set_cons_zero, List.set_cons_succ]
              refine wpAnyH_take (i := 11) (oi := { dst := some 51, op := Op.move (Operand.tmp 4), type := 2, pos := "ref.go:119", after := #[{ on := 12, ground := Ground.gcOnly Departure.lateStores }], guard := none }) (v := ?_) rfl (by kernel_rfl) (by kernel_rfl) (by kernel_rfl) (fun _ _ _ h => h) (Or.inl ⟨by rfl, ?_⟩) hHeld ?_
              rotate_left
              · intro w hSw
                try dsimp only at hSw
                go_simp
                try with_reducible rfl
              try simp only [Act.put, List.setIfInBounds_toArray, List.set_cons_zero, List.set_cons_succ]
              refine wpAnyH_ready (rs := [12]) (by kernel_rfl) (by simp) ?_
              refine AllReadyH.cons (o := { dst := none, op := Op.store 62 (Operand.tmp 2) (Operand.tmp 50), type := 0, pos := "ref.go:119", after := #[{ on := 10, ground := Ground.data }, { on := 6, ground := Ground.chain }, { on := 0, ground := Ground.phase }, { on := 1, ground := Ground.phase }, { on := 2, ground := Ground.phase }, { on := 3, ground := Ground.phase }, { on := 4, ground := Ground.phase }, { on := 5, ground := Ground.phase }, { on := 6, ground := Ground.phase }, { on := 7, ground := Ground.phase }, { on := 8, ground := Ground.phase }, { on := 9, ground := Ground.phase }, { on := 10, ground := Ground.phase }, { on := 11, ground := Ground.textOnly Departure.lateStores }], guard := none }) rfl (fun K hK => ?_) (AllReadyH.nil)
              rw [if_pos (by rfl)]
              refine wp_store_g 62 (.tmp 2) (.tmp 50) rfl rfl g1 0 #[.string (s.extract j s.size), .bool false] #[.string (s.extract j s.size), .bool false] rfl rfl _ _ y0 (Nat.le_refl 2) (by kernel_rfl) (by kernel_rfl) (by kernel_rfl) ?_
              refine hK.out _ _ (rd_mk (Blk.rowFar hHeld.2.2 (by omega) _)) (fun hHeld2 => ?_)
              clear hK K hHeld; have hHeld := hHeld2; clear hHeld2
              try simp only [Act.put, List.setIfInBounds_toArray, List.set_cons_zero, List.set_cons_succ]
              refine wpAnyH_take (i := 13) (oi := { dst := some 3, op := Op.assign (Operand.tmp 51), type := 2, pos := "ref.go:119", after := #[{ on := 11, ground := Ground.data }, { on := 12, ground := Ground.chain }, { on := 0, ground := Ground.phase }, { on := 1, ground := Ground.phase }, { on := 2, ground := Ground.phase }, { on := 3, ground := Ground.phase }, { on := 4, ground := Ground.phase }, { on := 5, ground := Ground.phase }, { on := 6, ground := Ground.phase }, { on := 7, ground := Ground.phase }, { on := 8, ground := Ground.phase }, { on := 9, ground := Ground.phase }, { on := 10, ground := Ground.phase }, { on := 11, ground := Ground.phase }, { on := 12, ground := Ground.phase }], guard := none }) (v := ?_) rfl (by kernel_rfl) (by kernel_rfl) (by kernel_rfl) (fun _ _ _ h => h) (Or.inl ⟨by rfl, ?_⟩) hHeld ?_
              rotate_left
              · intro w hSw
                try dsimp only at hSw
                go_simp
                try with_reducible rfl
              try simp only [Act.put, List.setIfInBounds_toArray, List.set_cons_zero, List.set_cons_succ]
              refine wpAnyH_done (by kernel_rfl) ?_ _
              go_wp2_with fail
              refine bodyPost_ret (results_rt (p := 2) (a := 3) rfl _ _ _ _ #[.string (s.extract j s.size), .bool false] (.int .i64 (N : Int)) rfl rfl (Blk.row y0 _) rfl) rfl ⟨congrArg Ending.returned HV.out, below_row hb0.drew (by omega) _⟩
        · have e1' : ¬ (j : Int) < 4 := by omega
          clear hc
          have HBC : bad = true ∨ (bad = false ∧ j = 0) ∨ (bad = false ∧ j ≠ 0) := by cases bad <;> by_cases q : j = 0 <;> simp [q]
          rcases HBC with rfl | ⟨rfl, hj0⟩ | ⟨rfl, hj0⟩
          · have HV := Lib.hid (show Value.tuple #[.agg #[.string (s.extract j s.size), .bool true], .int .i64 (N : Int)] = .tuple #[rv (numR 4 ⟨L s, true⟩).2, .int .i64 ((numR 4 ⟨L s, true⟩).1 : Int)] by rw [HE2.out, HX.out]; rfl)
            clear HE2 HX
            have c0 : wr.cell? ⟨w.heap.size, 0, none⟩ = some (.string s) := x0.cell 0
            go_upto_region 5 with fail
            clear c0
            refine wp_region_held_drew (S := fun w' => w'.cell? ⟨w.heap.size, 0, none⟩ = some (.string s) ∧ w'.cell? ⟨w.heap.size, 1, none⟩ = some (.bool true) ∧ Blk w' w.heap.size 62 #[.string s, .bool true]) (by kernel_rfl) (rd_mk (show Blk wr.drew w.heap.size 62 #[.string s, .bool true] from x0)) (fun hHeld => ?_)
            refine wpAnyH_take (i := 0) (oi := { dst := some 40, op := Op.fieldAddr 62 (Operand.tmp 1) 0, type := 0, pos := "ref.go:119", after := #[], guard := none }) (v := ?_) rfl (by kernel_rfl) (by kernel_rfl) (by kernel_rfl) (fun _ _ _ h => h) (Or.inl ⟨by rfl, ?_⟩) hHeld ?_
            rotate_left
            · intro w hSw
              try dsimp only at hSw
              go_simp
              try with_reducible rfl
            try simp only [Act.put, List.setIfInBounds_toArray, List.set_cons_zero, List.set_cons_succ]
            refine wpAnyH_take (i := 1) (oi := { dst := some 41, op := Op.load 9 (Operand.tmp 40), type := 9, pos := "ref.go:119", after := #[{ on := 0, ground := Ground.data }], guard := none }) (v := ?_) rfl (by kernel_rfl) (by kernel_rfl) (by kernel_rfl) (fun _ _ _ h => h) (Or.inl ⟨by rfl, ?_⟩) hHeld ?_
            rotate_left
            · intro w hSw
              try dsimp only at hSw
              go_simp
              try with_reducible rfl
            try simp only [Act.put, List.setIfInBounds_toArray, List.set_cons_zero, List.set_cons_succ]
            refine wpAnyH_take (i := 2) (oi := { dst := some 42, op := Op.move (Operand.tmp 5), type := 3, pos := "ref.go:119", after := #[], guard := none }) (v := ?_) rfl (by kernel_rfl) (by kernel_rfl) (by kernel_rfl) (fun _ _ _ h => h) (Or.inl ⟨by rfl, ?_⟩) hHeld ?_
            rotate_left
            · intro w hSw
              try dsimp only at hSw
              go_simp
              try with_reducible rfl
            try simp only [Act.put, List.setIfInBounds_toArray, List.set_cons_zero, List.set_cons_succ]
            refine wpAnyH_take (i := 3) (oi := { dst := some 43, op := Op.slice 9 (Operand.tmp 41) (some (Operand.tmp 42)) none none, type := 9, pos := "ref.go:119", after := #[{ on := 1, ground := Ground.data }, { on := 2, ground := Ground.data }], guard := none }) (v := ?_) rfl (by kernel_rfl) (by kernel_rfl) (by kernel_rfl) (fun _ _ _ h => h) (Or.inl ⟨by rfl, ?_⟩) hHeld ?_
            rotate_left
            · intro w hSw
              try dsimp only at hSw
              go_simp
              try with_reducible rfl
            try simp only [Act.put, List.setIfInBounds_toArray, List.set_cons_zero, List.set_cons_succ]
            refine wpAnyH_take (i := 4) (oi := { dst := some 44, op := Op.fieldAddr 62 (Operand.tmp 1) 1, type := 0, pos := "ref.go:119", after := #[], guard := none }) (v := ?_) rfl (by kernel_rfl) (by kernel_rfl) (by kernel_rfl) (fun _ _ _ h => h) (Or.inl ⟨by rfl, ?_⟩) hHeld ?_
            rotate_left
            · intro w hSw
              try dsimp only at hSw
              go_simp
              try with_reducible rfl
            try simp only [Act.put, List.setIfInBounds_toArray, List.set_cons_zero, List.set_cons_succ]
            refine wpAnyH_take (i := 5) (oi := { dst := some 45, op := Op.load 4 (Operand.tmp 44), type := 4, pos := "ref.go:119", after := #[{ on := 4, ground := Ground.data }], guard := none }) (v := ?_) rfl (by kernel_rfl) (by kernel_rfl) (by kernel_rfl) (fun _ _ _ h => h) (Or.inl ⟨by rfl, ?_⟩) hHeld ?_
            rotate_left
            · intro w hSw
              try dsimp only at hSw
              go_simp
              try with_reducible rfl
            try simp only [Act.put, List.setIfInBounds_toArray, List.set_cons_zero, List.set_cons_succ]
            refine wpAnyH_take (i := 6) (oi := { dst := some 46, op := Op.move (Operand.tmp 45), type := 4, pos := "ref.go:119", after := #[{ on := 5, ground := Ground.data }], guard := none }) (v := ?_) rfl (by kernel_rfl) (by kernel_rfl) (by kernel_rfl) (fun _ _ _ h => h) (Or.inl ⟨by rfl, ?_⟩) hHeld ?_
            rotate_left
            · intro w hSw
              try dsimp only at hSw
              go_simp
              try with_reducible rfl
            try simp only [Act.put, List.setIfInBounds_toArray, List.set_cons_zero, List.set_cons_succ]
            refine wpAnyH_take (i := 7) (oi := { dst := some 47, op := Op.move (Operand.tmp 5), type := 3, pos := "ref.go:119", after := #[{ on := 6, ground := Ground.guard }], guard := some (6, false) }) (v := undef) rfl (by kernel_rfl) (by kernel_rfl) (by kernel_rfl) (fun _ _ _ h => h) (Or.inr ⟨by rfl, rfl⟩) hHeld ?_
            try simp only [Act.put, List.setIfInBounds_toArray, List.set_cons_zero, List.set_cons_succ]
            refine wpAnyH_take (i := 8) (oi := { dst := some 48, op := Op.binOp BinOp.eql 3 (Operand.tmp 47) (Operand.const (Value.int IntKind.i64 0)) 3, type := 4, pos := "ref.go:119", after := #[{ on := 7, ground := Ground.data }, { on := 6, ground := Ground.guard }], guard := some (6, false) }) (v := undef) rfl (by kernel_rfl) (by kernel_rfl) (by kernel_rfl) (fun _ _ _ h => h) (Or.inr ⟨by rfl, rfl⟩) hHeld ?_
            try simp only [Act.put, List.setIfInBounds_toArray, List.set_cons_zero, List.set_cons_succ]
            refine wpAnyH_take (i := 9) (oi := { dst := some 49, op := Op.pick (Operand.tmp 46) (Operand.const (Value.bool true)) (Operand.tmp 48), type := 4, pos := "ref.go:119", after := #[{ on := 6, ground := Ground.data }, { on := 8, ground := Ground.data }], guard := none }) (v := ?_) rfl (by kernel_rfl) (by kernel_rfl) (by kernel_rfl) (fun _ _ _ h => h) (Or.inl ⟨by rfl, ?_⟩) hHeld ?_
            rotate_left
            · intro w hSw
              try dsimp only at hSw
              go_simp
              try with_reducible rfl
            try simp only [Act.put, List.setIfInBounds_toArray, List.set_cons_zero, List.set_cons_succ]
            refine wpAnyH_take (i := 10) (oi := { dst := some 50, op := Op.build 62 #[(0, Operand.tmp 43), (1, Operand.tmp 49)], type := 62, pos := "ref.go:119", after := #[{ on := 3, ground := Ground.data }, { on := 9, ground := Ground.data }], guard := none }) (v := ?_) rfl (by kernel_rfl) (by kernel_rfl) (by kernel_rfl) (fun _ _ _ h => h) (Or.inl ⟨by rfl, ?_⟩) hHeld ?_
            rotate_left
            · intro w hSw
              try dsimp only at hSw
              go_simp
              try with_reducible rfl
            try simp only [Act.put, List.setIfInBounds_toArray, List.set_cons_zero, List.set_cons_succ]
            refine wpAnyH_take (i := 11) (oi := { dst := some 51, op := Op.move (Operand.tmp 4), type := 2, pos := "ref.go:119", after := #[{ on := 12, ground := Ground.gcOnly Departure.lateStores }], guard := none }) (v := ?_) rfl (by kernel_rfl) (by kernel_rfl) (by kernel_rfl) (fun _ _ _ h => h) (Or.inl ⟨by rfl, ?_⟩) hHeld ?_
            rotate_left
            · intro w hSw
              try dsimp only at hSw
              go_simp
              try with_reducible rfl
            try simp only [Act.put, List.setIfInBounds_toArray, List.set_cons_zero, List.set_cons_succ]
            refine wpAnyH_ready (rs := [12]) (by kernel_rfl) (by simp) ?_
            refine AllReadyH.cons (o := { dst := none, op := Op.store 62 (Operand.tmp 2) (Operand.tmp 50), type := 0, pos := "ref.go:119", after := #[{ on := 10, ground := Ground.data }, { on := 6, ground := Ground.chain }, { on := 0, ground := Ground.phase }, { on := 1, ground := Ground.phase }, { on := 2, ground := Ground.phase }, { on := 3, ground := Ground.phase }, { on := 4, ground := Ground.phase }, { on := 5, ground := Ground.phase }, { on := 6, ground := Ground.phase }, { on := 7, ground := Ground.phase }, { on := 8, ground := Ground.phase }, { on := 9, ground := Ground.phase }, { on := 10, ground := Ground.phase }, { on := 11, ground := Ground.textOnly Departure.lateStores }], guard := none }) rfl (fun K hK => ?_) (AllReadyH.nil)
            rw [if_pos (by rfl)]
            refine wp_store_g 62 (.tmp 2) (.tmp 50) rfl rfl g1 0 #[.string (s.extract j s.size), .bool true] #[.string (s.extract j s.size), .bool true] rfl rfl _ _ y0 (Nat.le_refl 2) (by kernel_rfl) (by kernel_rfl) (by kernel_rfl) ?_
            refine hK.out _ _ (rd_mk (Blk.rowFar hHeld.2.2 (by omega) _)) (fun hHeld2 => ?_)
            clear hK K hHeld; have hHeld := hHeld2; clear hHeld2
            try simp only [Act.put, List.setIfInBounds_toArray, List.set_cons_zero, List.set_cons_succ]
            refine wpAnyH_take (i := 13) (oi := { dst := some 3, op := Op.assign (Operand.tmp 51), type := 2, pos := "ref.go:119", after := #[{ on := 11, ground := Ground.data }, { on := 12, ground := Ground.chain }, { on := 0, ground := Ground.phase }, { on := 1, ground := Ground.phase }, { on := 2, ground := Ground.phase }, { on := 3, ground := Ground.phase }, { on := 4, ground := Ground.phase }, { on := 5, ground := Ground.phase }, { on := 6, ground := Ground.phase }, { on := 7, ground := Ground.phase }, { on := 8, ground := Ground.phase }, { on := 9, ground := Ground.phase }, { on := 10, ground := Ground.phase }, { on := 11, ground := Ground.phase }, { on := 12, ground := Ground.phase }], guard := none }) (v := ?_) rfl (by kernel_rfl) (by kernel_rfl) (by kernel_rfl) (fun _ _ _ h => h) (Or.inl ⟨by rfl, ?_⟩) hHeld ?_
            rotate_left
            · intro w hSw
              try dsimp only at hSw
              go_simp
              try with_reducible rfl
            try simp only [Act.put, List.setIfInBounds_toArray, List.set_cons_zero, List.set_cons_succ]
            refine wpAnyH_done (by kernel_rfl) ?_ _
            go_wp2_with fail
            refine bodyPost_ret (results_rt (p := 2) (a := 3) rfl _ _ _ _ #[.string (s.extract j s.size), .bool true] (.int .i64 (N : Int)) rfl rfl (Blk.row y0 _) rfl) rfl ⟨congrArg Ending.returned HV.out, below_row hb0.drew (by omega) _⟩
          · have HV := Lib.hid (show Value.tuple #[.agg #[.string (s.extract j s.size), .bool true], .int .i64 (N : Int)] = .tuple #[rv (numR 4 ⟨L s, false⟩).2, .int .i64 ((numR 4 ⟨L s, false⟩).1 : Int)] by rw [HE2.out, HX.out, hj0]; rfl)
            have e6 : ((j : Int) == 0) = true := by simp [hj0]
            clear HE2 HX hj0
            have c0 : wr.cell? ⟨w.heap.size, 0, none⟩ = some (.string s) := x0.cell 0
            go_upto_region 5 with fail
            clear c0
            refine wp_region_held_drew (S := fun w' => w'.cell? ⟨w.heap.size, 0, none⟩ = some (.string s) ∧ w'.cell? ⟨w.heap.size, 1, none⟩ = some (.bool false) ∧ Blk w' w.heap.size 62 #[.string s, .bool false]) (by kernel_rfl) (rd_mk (show Blk wr.drew w.heap.size 62 #[.string s, .bool false] from x0)) (fun hHeld => ?_)
            refine wpAnyH_take (i := 0) (oi := { dst := some 40, op := Op.fieldAddr 62 (Operand.tmp 1) 0, type := 0, pos := "ref.go:119", after := #[], guard := none }) (v := ?_) rfl (by kernel_rfl) (by kernel_rfl) (by kernel_rfl) (fun _ _ _ h => h) (Or.inl ⟨by rfl, ?_⟩) hHeld ?_
            rotate_left
            · intro w hSw
              try dsimp only at hSw
              go_simp
              try with_reducible rfl
            try simp only [Act.put, List.setIfInBounds_toArray, List.set_cons_zero, List.set_cons_succ]
            refine wpAnyH_take (i := 1) (oi := { dst := some 41, op := Op.load 9 (Operand.tmp 40), type := 9, pos := "ref.go:119", after := #[{ on := 0, ground := Ground.data }], guard := none }) (v := ?_) rfl (by kernel_rfl) (by kernel_rfl) (by kernel_rfl) (fun _ _ _ h => h) (Or.inl ⟨by rfl, ?_⟩) hHeld ?_
            rotate_left
            · intro w hSw
              try dsimp only at hSw
              go_simp
              try with_reducible rfl
            try simp only [Act.put, List.setIfInBounds_toArray, List.set_cons_zero, List.set_cons_succ]
            refine wpAnyH_take (i := 2) (oi := { dst := some 42, op := Op.move (Operand.tmp 5), type := 3, pos := "ref.go:119", after := #[], guard := none }) (v := ?_) rfl (by kernel_rfl) (by kernel_rfl) (by kernel_rfl) (fun _ _ _ h => h) (Or.inl ⟨by rfl, ?_⟩) hHeld ?_
            rotate_left
            · intro w hSw
              try dsimp only at hSw
              go_simp
              try with_reducible rfl
            try simp only [Act.put, List.setIfInBounds_toArray, List.set_cons_zero, List.set_cons_succ]
            refine wpAnyH_take (i := 3) (oi := { dst := some 43, op := Op.slice 9 (Operand.tmp 41) (some (Operand.tmp 42)) none none, type := 9, pos := "ref.go:119", after := #[{ on := 1, ground := Ground.data }, { on := 2, ground := Ground.data }], guard := none }) (v := ?_) rfl (by kernel_rfl) (by kernel_rfl) (by kernel_rfl) (fun _ _ _ h => h) (Or.inl ⟨by rfl, ?_⟩) hHeld ?_
            rotate_left
            · intro w hSw
              try dsimp only at hSw
              go_simp
              try with_reducible rfl
            try simp only [Act.put, List.setIfInBounds_toArray, List.set_cons_zero, List.set_cons_succ]
            refine wpAnyH_take (i := 4) (oi := { dst := some 44, op := Op.fieldAddr 62 (Operand.tmp 1) 1, type := 0, pos := "ref.go:119", after := #[], guard := none }) (v := ?_) rfl (by kernel_rfl) (by kernel_rfl) (by kernel_rfl) (fun _ _ _ h => h) (Or.inl ⟨by rfl, ?_⟩) hHeld ?_
            rotate_left
            · intro w hSw
              try dsimp only at hSw
              go_simp
              try with_reducible rfl
            try simp only [Act.put, List.setIfInBounds_toArray, List.set_cons_zero, List.set_cons_succ]
            refine wpAnyH_take (i := 5) (oi := { dst := some 45, op := Op.load 4 (Operand.tmp 44), type := 4, pos := "ref.go:119", after := #[{ on := 4, ground := Ground.data }], guard := none }) (v := ?_) rfl (by kernel_rfl) (by kernel_rfl) (by kernel_rfl) (fun _ _ _ h => h) (Or.inl ⟨by rfl, ?_⟩) hHeld ?_
            rotate_left
            · intro w hSw
              try dsimp only at hSw
              go_simp
              try with_reducible rfl
            try simp only [Act.put, List.setIfInBounds_toArray, List.set_cons_zero, List.set_cons_succ]
            refine wpAnyH_take (i := 6) (oi := { dst := some 46, op := Op.move (Operand.tmp 45), type := 4, pos := "ref.go:119", after := #[{ on := 5, ground := Ground.data }], guard := none }) (v := ?_) rfl (by kernel_rfl) (by kernel_rfl) (by kernel_rfl) (fun _ _ _ h => h) (Or.inl ⟨by rfl, ?_⟩) hHeld ?_
            rotate_left
            · intro w hSw
              try dsimp only at hSw
              go_simp
              try with_reducible rfl
            try simp only [Act.put, List.setIfInBounds_toArray, List.set_cons_zero, List.set_cons_succ]
            refine wpAnyH_take (i := 7) (oi := { dst := some 47, op := Op.move (Operand.tmp 5), type := 3, pos := "ref.go:119", after := #[{ on := 6, ground := Ground.guard }], guard := some (6, false) }) (v := ?_) rfl (by kernel_rfl) (by kernel_rfl) (by kernel_rfl) (fun _ _ _ h => h) (Or.inl ⟨by rfl, ?_⟩) hHeld ?_
            rotate_left
            · intro w hSw
              try dsimp only at hSw
              go_simp
              try with_reducible rfl
            try simp only [Act.put, List.setIfInBounds_toArray, List.set_cons_zero, List.set_cons_succ]
            refine wpAnyH_take (i := 8) (oi := { dst := some 48, op := Op.binOp BinOp.eql 3 (Operand.tmp 47) (Operand.const (Value.int IntKind.i64 0)) 3, type := 4, pos := "ref.go:119", after := #[{ on := 7, ground := Ground.data }, { on := 6, ground := Ground.guard }], guard := some (6, false) }) (v := ?_) rfl (by kernel_rfl) (by kernel_rfl) (by kernel_rfl) (fun _ _ _ h => h) (Or.inl ⟨by rfl, ?_⟩) hHeld ?_
            rotate_left
            · intro w hSw
              try dsimp only at hSw
              go_simp
              try with_reducible rfl
            try simp only [Act.put, List.setIfInBounds_toArray, List.set_cons_zero, List.set_cons_succ]
            refine wpAnyH_take (i := 9) (oi := { dst := some 49, op := Op.pick (Operand.tmp 46) (Operand.const (Value.bool true)) (Operand.tmp 48), type := 4, pos := "ref.go:119", after := #[{ on := 6, ground := Ground.data }, { on := 8, ground := Ground.data }], guard := none }) (v := ?_) rfl (by kernel_rfl) (by kernel_rfl) (by kernel_rfl) (fun _ _ _ h => h) (Or.inl ⟨by rfl, ?_⟩) hHeld ?_
            rotate_left
            · intro w hSw
              try dsimp only at hSw
              go_simp
              try with_reducible rfl
            try simp only [Act.put, List.setIfInBounds_toArray, List.set_cons_zero, List.set_cons_succ]
            refine wpAnyH_take (i := 10) (oi := { dst := some 50, op := Op.build 62 #[(0, Operand.tmp 43), (1, Operand.tmp 49)], type := 62, pos := "ref.go:119", after := #[{ on := 3, ground := Ground.data }, { on := 9, ground := Ground.data }], guard := none }) (v := ?_) rfl (by kernel_rfl) (by kernel_rfl) (by kernel_rfl) (fun _ _ _ h => h) (Or.inl ⟨by rfl, ?_⟩) hHeld ?_
            rotate_left
            · intro w hSw
              try dsimp only at hSw
              go_simp
              try with_reducible rfl
            try simp only [Act.put, List.setIfInBounds_toArray, List.set_cons_zero, List.set_cons_succ]
            refine wpAnyH_take (i := 11) (oi := { dst := some 51, op := Op.move (Operand.tmp 4), type := 2, pos := "ref.go:119", after := #[{ on := 12, ground := Ground.gcOnly Departure.lateStores }], guard := none }) (v := ?_) rfl (by kernel_rfl) (by kernel_rfl) (by kernel_rfl) (fun _ _ _ h => h) (Or.inl ⟨by rfl, ?_⟩) hHeld ?_
            rotate_left
            · intro w hSw
              try dsimp only at hSw
              go_simp
              try with_reducible rfl
            try simp only [Act.put, List.setIfInBounds_toArray, List.set_cons_zero, List.set_cons_succ]
            refine wpAnyH_ready (rs := [12]) (by kernel_rfl) (by simp) ?_
            refine AllReadyH.cons (o := { dst := none, op := Op.store 62 (Operand.tmp 2) (Operand.tmp 50), type := 0, pos := "ref.go:119", after := #[{ on := 10, ground := Ground.data }, { on := 6, ground := Ground.chain }, { on := 0, ground := Ground.phase }, { on := 1, ground := Ground.phase }, { on := 2, ground := Ground.phase }, { on := 3, ground := Ground.phase }, { on := 4, ground := Ground.phase }, { on := 5, ground := Ground.phase }, { on := 6, ground := Ground.phase }, { on := 7, ground := Ground.phase }, { on := 8, ground := Ground.phase }, { on := 9, ground := Ground.phase }, { on := 10, ground := Ground.phase }, { on := 11, ground := Ground.textOnly Departure.lateStores }], guard := none }) rfl (fun K hK => ?_) (AllReadyH.nil)
            rw [if_pos (by rfl)]
            refine wp_store_g 62 (.tmp 2) (.tmp 50) rfl rfl g1 0 #[.string (s.extract j s.size), .bool true] #[.string (s.extract j s.size), .bool true] rfl rfl _ _ y0 (Nat.le_refl 2) (by kernel_rfl) (by kernel_rfl) (by kernel_rfl) ?_
            refine hK.out _ _ (rd_mk (Blk.rowFar hHeld.2.2 (by omega) _)) (fun hHeld2 => ?_)
            clear hK K hHeld; have hHeld := hHeld2; clear hHeld2
            try simp only [Act.put, List.setIfInBounds_toArray, List.set_cons_zero, List.set_cons_succ]
            refine wpAnyH_take (i := 13) (oi := { dst := some 3, op := Op.assign (Operand.tmp 51), type := 2, pos := "ref.go:119", after := #[{ on := 11, ground := Ground.data }, { on := 12, ground := Ground.chain }, { on := 0, ground := Ground.phase }, { on := 1, ground := Ground.phase }, { on := 2, ground := Ground.phase }, { on := 3, ground := Ground.phase }, { on := 4, ground := Ground.phase }, { on := 5, ground := Ground.phase }, { on := 6, ground := Ground.phase }, { on := 7, ground := Ground.phase }, { on := 8, ground := Ground.phase }, { on := 9, ground := Ground.phase }, { on := 10, ground := Ground.phase }, { on := 11, ground := Ground.phase }, { on := 12, ground := Ground.phase }], guard := none }) (v := ?_) rfl (by kernel_rfl) (by kernel_rfl) (by kernel_rfl) (fun _ _ _ h => h) (Or.inl ⟨by rfl, ?_⟩) hHeld ?_
            rotate_left
            · intro w hSw
              try dsimp only at hSw
              go_simp
              try with_reducible rfl
            try simp only [Act.put, List.setIfInBounds_toArray, List.set_cons_zero, List.set_cons_succ]
            refine wpAnyH_done (by kernel_rfl) ?_ _
            go_wp2_with fail
            refine bodyPost_ret (results_rt (p := 2) (a := 3) rfl _ _ _ _ #[.string (s.extract j s.size), .bool true] (.int .i64 (N : Int)) rfl rfl (Blk.row y0 _) rfl) rfl ⟨congrArg Ending.returned HV.out, below_row hb0.drew (by omega) _⟩
          · have HV := Lib.hid (show Value.tuple #[.agg #[.string (s.extract j s.size), .bool false], .int .i64 (N : Int)] = .tuple #[rv (numR 4 ⟨L s, false⟩).2, .int .i64 ((numR 4 ⟨L s, false⟩).1 : Int)] by rw [HE2.out, HX.out]; dsimp only; rw [show (j == 0) = false by simp [hj0], Bool.or_false])
            have e6 : ((j : Int) == 0) = false := by simp [hj0]
            clear HE2 HX hj0
            have c0 : wr.cell? ⟨w.heap.size, 0, none⟩ = some (.string s) := x0.cell 0
            go_upto_region 5 with fail
            clear c0
            refine wp_region_held_drew (S := fun w' => w'.cell? ⟨w.heap.size, 0, none⟩ = some (.string s) ∧ w'.cell? ⟨w.heap.size, 1, none⟩ = some (.bool false) ∧ Blk w' w.heap.size 62 #[.string s, .bool false]) (by kernel_rfl) (rd_mk (show Blk wr.drew w.heap.size 62 #[.string s, .bool false] from x0)) (fun hHeld => ?_)
            refine wpAnyH_take (i := 0) (oi := { dst := some 40, op := Op.fieldAddr 62 (Operand.tmp 1) 0, type := 0, pos := "ref.go:119", after := #[], guard := none }) (v := ?_) rfl (by kernel_rfl) (by kernel_rfl) (by kernel_rfl) (fun _ _ _ h => h) (Or.inl ⟨by rfl, ?_⟩) hHeld ?_
            rotate_left
            · intro w hSw
              try dsimp only at hSw
              go_simp
              try with_reducible rfl
            try simp only [Act.put, List.setIfInBounds_toArray, List.set_cons_zero, List.set_cons_succ]
            refine wpAnyH_take (i := 1) (oi := { dst := some 41, op := Op.load 9 (Operand.tmp 40), type := 9, pos := "ref.go:119", after := #[{ on := 0, ground := Ground.data }], guard := none }) (v := ?_) rfl (by kernel_rfl) (by kernel_rfl) (by kernel_rfl) (fun _ _ _ h => h) (Or.inl ⟨by rfl, ?_⟩) hHeld ?_
            rotate_left
            · intro w hSw
              try dsimp only at hSw
              go_simp
              try with_reducible rfl
            try simp only [Act.put, List.setIfInBounds_toArray, List.set_cons_zero, List.set_cons_succ]
            refine wpAnyH_take (i := 2) (oi := { dst := some 42, op := Op.move (Operand.tmp 5), type := 3, pos := "ref.go:119", after := #[], guard := none }) (v := ?_) rfl (by kernel_rfl) (by kernel_rfl) (by kernel_rfl) (fun _ _ _ h => h) (Or.inl ⟨by rfl, ?_⟩) hHeld ?_
            rotate_left
            · intro w hSw
              try dsimp only at hSw
              go_simp
              try with_reducible rfl
            try simp only [Act.put, List.setIfInBounds_toArray, List.set_cons_zero, List.set_cons_succ]
            refine wpAnyH_take (i := 3) (oi := { dst := some 43, op := Op.slice 9 (Operand.tmp 41) (some (Operand.tmp 42)) none none, type := 9, pos := "ref.go:119", after := #[{ on := 1, ground := Ground.data }, { on := 2, ground := Ground.data }], guard := none }) (v := ?_) rfl (by kernel_rfl) (by kernel_rfl) (by kernel_rfl) (fun _ _ _ h => h) (Or.inl ⟨by rfl, ?_⟩) hHeld ?_
            rotate_left
            · intro w hSw
              try dsimp only at hSw
              go_simp
              try with_reducible rfl
            try simp only [Act.put, List.setIfInBounds_toArray, List.set_cons_zero, List.set_cons_succ]
            refine wpAnyH_take (i := 4) (oi := { dst := some 44, op := Op.fieldAddr 62 (Operand.tmp 1) 1, type := 0, pos := "ref.go:119", after := #[], guard := none }) (v := ?_) rfl (by kernel_rfl) (by kernel_rfl) (by kernel_rfl) (fun _ _ _ h => h) (Or.inl ⟨by rfl, ?_⟩) hHeld ?_
            rotate_left
            · intro w hSw
              try dsimp only at hSw
              go_simp
              try with_reducible rfl
            try simp only [Act.put, List.setIfInBounds_toArray, List.set_cons_zero, List.set_cons_succ]
            refine wpAnyH_take (i := 5) (oi := { dst := some 45, op := Op.load 4 (Operand.tmp 44), type := 4, pos := "ref.go:119", after := #[{ on := 4, ground := Ground.data }], guard := none }) (v := ?_) rfl (by kernel_rfl) (by kernel_rfl) (by kernel_rfl) (fun _ _ _ h => h) (Or.inl ⟨by rfl, ?_⟩) hHeld ?_
            rotate_left
            · intro w hSw
              try dsimp only at hSw
              go_simp
              try with_reducible rfl
            try simp only [Act.put, List.setIfInBounds_toArray, List.set_cons_zero, List.set_cons_succ]
            refine wpAnyH_take (i := 6) (oi := { dst := some 46, op := Op.move (Operand.tmp 45), type := 4, pos := "ref.go:119", after := #[{ on := 5, ground := Ground.data }], guard := none }) (v := ?_) rfl (by kernel_rfl) (by kernel_rfl) (by kernel_rfl) (fun _ _ _ h => h) (Or.inl ⟨by rfl, ?_⟩) hHeld ?_
            rotate_left
            · intro w hSw
              try dsimp only at hSw
              go_simp
              try with_reducible rfl
            try simp only [Act.put, List.setIfInBounds_toArray, List.set_cons_zero, List.set_cons_succ]
            refine wpAnyH_take (i := 7) (oi := { dst := some 47, op := Op.move (Operand.tmp 5), type := 3, pos := "ref.go:119", after := #[{ on := 6, ground := Ground.guard }], guard := some (6, false) }) (v := ?_) rfl (by kernel_rfl) (by kernel_rfl) (by kernel_rfl) (fun _ _ _ h => h) (Or.inl ⟨by rfl, ?_⟩) hHeld ?_
            rotate_left
            · intro w hSw
              try dsimp only at hSw
              go_simp
              try with_reducible rfl
            try simp only [Act.put, List.setIfInBounds_toArray, List.set_cons_zero, List.set_cons_succ]
            refine wpAnyH_take (i := 8) (oi := { dst := some 48, op := Op.binOp BinOp.eql 3 (Operand.tmp 47) (Operand.const (Value.int IntKind.i64 0)) 3, type := 4, pos := "ref.go:119", after := #[{ on := 7, ground := Ground.data }, { on := 6, ground := Ground.guard }], guard := some (6, false) }) (v := ?_) rfl (by kernel_rfl) (by kernel_rfl) (by kernel_rfl) (fun _ _ _ h => h) (Or.inl ⟨by rfl, ?_⟩) hHeld ?_
            rotate_left
            · intro w hSw
              try dsimp only at hSw
              go_simp
              try with_reducible rfl
            try simp only [Act.put, List.setIfInBounds_toArray, List.set_cons_zero, List.set_cons_succ]
            refine wpAnyH_take (i := 9) (oi := { dst := some 49, op := Op.pick (Operand.tmp 46) (Operand.const (Value.bool true)) (Operand.tmp 48), type := 4, pos := "ref.go:119", after := #[{ on := 6, ground := Ground.data }, { on := 8, ground := Ground.data }], guard := none }) (v := ?_) rfl (by kernel_rfl) (by kernel_rfl) (by kernel_rfl) (fun _ _ _ h => h) (Or.inl ⟨by rfl, ?_⟩) hHeld ?_
            rotate_left
            · intro w hSw
              try dsimp only at hSw
              go_simp
              try with_reducible rfl
            try simp only [Act.put, List.setIfInBounds_toArray, List.set_cons_zero, List.set_cons_succ]
            refine wpAnyH_take (i := 10) (oi := { dst := some 50, op := Op.build 62 #[(0, Operand.tmp 43), (1, Operand.tmp 49)], type := 62, pos := "ref.go:119", after := #[{ on := 3, ground := Ground.data }, { on := 9, ground := Ground.data }], guard := none }) (v := ?_) rfl (by kernel_rfl) (by kernel_rfl) (by kernel_rfl) (fun _ _ _ h => h) (Or.inl ⟨by rfl, ?_⟩) hHeld ?_
            rotate_left
            · intro w hSw
              try dsimp only at hSw
              go_simp
              try with_reducible rfl
            try simp only [Act.put, List.setIfInBounds_toArray, List.set_cons_zero, List.set_cons_succ]
            refine wpAnyH_take (i := 11) (oi := { dst := some 51, op := Op.move (Operand.tmp 4), type := 2, pos := "ref.go:119", after := #[{ on := 12, ground := Ground.gcOnly Departure.lateStores }], guard := none }) (v := ?_) rfl (by kernel_rfl) (by kernel_rfl) (by kernel_rfl) (fun _ _ _ h => h) (Or.inl ⟨by rfl, ?_⟩) hHeld ?_
            rotate_left
            · intro w hSw
              try dsimp only at hSw
              go_simp
              try with_reducible rfl
            try simp only [Act.put, List.setIfInBounds_toArray, List.set_cons_zero, List.set_cons_succ]
            refine wpAnyH_ready (rs := [12]) (by kernel_rfl) (by simp) ?_
            refine AllReadyH.cons (o := { dst := none, op := Op.store 62 (Operand.tmp 2) (Operand.tmp 50), type := 0, pos := "ref.go:119", after := #[{ on := 10, ground := Ground.data }, { on := 6, ground := Ground.chain }, { on := 0, ground := Ground.phase }, { on := 1, ground := Ground.phase }, { on := 2, ground := Ground.phase }, { on := 3, ground := Ground.phase }, { on := 4, ground := Ground.phase }, { on := 5, ground := Ground.phase }, { on := 6, ground := Ground.phase }, { on := 7, ground := Ground.phase }, { on := 8, ground := Ground.phase }, { on := 9, ground := Ground.phase }, { on := 10, ground := Ground.phase }, { on := 11, ground := Ground.textOnly Departure.lateStores }], guard := none }) rfl (fun K hK => ?_) (AllReadyH.nil)
            rw [if_pos (by rfl)]
            refine wp_store_g 62 (.tmp 2) (.tmp 50) rfl rfl g1 0 #[.string (s.extract j s.size), .bool false] #[.string (s.extract j s.size), .bool false] rfl rfl _ _ y0 (Nat.le_refl 2) (by kernel_rfl) (by kernel_rfl) (by kernel_rfl) ?_
            refine hK.out _ _ (rd_mk (Blk.rowFar hHeld.2.2 (by omega) _)) (fun hHeld2 => ?_)
            clear hK K hHeld; have hHeld := hHeld2; clear hHeld2
            try simp only [Act.put, List.setIfInBounds_toArray, List.set_cons_zero, List.set_cons_succ]
            refine wpAnyH_take (i := 13) (oi := { dst := some 3, op := Op.assign (Operand.tmp 51), type := 2, pos := "ref.go:119", after := #[{ on := 11, ground := Ground.data }, { on := 12, ground := Ground.chain }, { on := 0, ground := Ground.phase }, { on := 1, ground := Ground.phase }, { on := 2, ground := Ground.phase }, { on := 3, ground := Ground.phase }, { on := 4, ground := Ground.phase }, { on := 5, ground := Ground.phase }, { on := 6, ground := Ground.phase }, { on := 7, ground := Ground.phase }, { on := 8, ground := Ground.phase }, { on := 9, ground := Ground.phase }, { on := 10, ground := Ground.phase }, { on := 11, ground := Ground.phase }, { on := 12, ground := Ground.phase }], guard := none }) (v := ?_) rfl (by kernel_rfl) (by kernel_rfl) (by kernel_rfl) (fun _ _ _ h => h) (Or.inl ⟨by rfl, ?_⟩) hHeld ?_
            rotate_left
            · intro w hSw
              try dsimp only at hSw
              go_simp
              try with_reducible rfl
            try simp only [Act.put, List.setIfInBounds_toArray, List.set_cons_zero, List.set_cons_succ]
            refine wpAnyH_done (by kernel_rfl) ?_ _
            go_wp2_with fail
            refine bodyPost_ret (results_rt (p := 2) (a := 3) rfl _ _ _ _ #[.string (s.extract j s.size), .bool false] (.int .i64 (N : Int)) rfl rfl (Blk.row y0 _) rfl) rfl ⟨congrArg Ending.returned HV.out, below_row hb0.drew (by omega) _⟩
      · have e2' : ¬ (j : Int) < (s.size : Int) := by omega
        clear hc
        have HBC : bad = true ∨ (bad = false ∧ j = 0) ∨ (bad = false ∧ j ≠ 0) := by cases bad <;> by_cases q : j = 0 <;> simp [q]
        rcases HBC with rfl | ⟨rfl, hj0⟩ | ⟨rfl, hj0⟩
        · have HV := Lib.hid (show Value.tuple #[.agg #[.string (s.extract j s.size), .bool true], .int .i64 (N : Int)] = .tuple #[rv (numR 4 ⟨L s, true⟩).2, .int .i64 ((numR 4 ⟨L s, true⟩).1 : Int)] by rw [HE2.out, HX.out]; rfl)
          clear HE2 HX
          have c0 : wr.cell? ⟨w.heap.size, 0, none⟩ = some (.string s) := x0.cell 0
          go_upto_region 5 with fail
          clear c0
          refine wp_region_held_drew (S := fun w' => w'.cell? ⟨w.heap.size, 0, none⟩ = some (.string s) ∧ w'.cell? ⟨w.heap.size, 1, none⟩ = some (.bool true) ∧ Blk w' w.heap.size 62 #[.string s, .bool true]) (by kernel_rfl) (rd_mk (show Blk wr.drew w.heap.size 62 #[.string s, .bool true] from x0)) (fun hHeld => ?_)
          refine wpAnyH_take (i := 0) (oi := { dst := some 40, op := Op.fieldAddr 62 (Operand.tmp 1) 0, type := 0, pos := "ref.go:119", after := #[], guard := none }) (v := ?_) rfl (by kernel_rfl) (by kernel_rfl) (by kernel_rfl) (fun _ _ _ h => h) (Or.inl ⟨by rfl, ?_⟩) hHeld ?_
          rotate_left
          · intro w hSw
            try dsimp only at hSw
            go_simp
            try with_reducible rfl
          try simp only [Act.put, List.setIfInBounds_toArray, List.set_cons_zero, List.set_cons_succ]
          refine wpAnyH_take (i := 1) (oi := { dst := some 41, op := Op.load 9 (Operand.tmp 40), type := 9, pos := "ref.go:119", after := #[{ on := 0, ground := Ground.data }], guard := none }) (v := ?_) rfl (by kernel_rfl) (by kernel_rfl) (by kernel_rfl) (fun _ _ _ h => h) (Or.inl ⟨by rfl, ?_⟩) hHeld ?_
          rotate_left
          · intro w hSw
            try dsimp only at hSw
            go_simp
            try with_reducible rfl
          try simp only [Act.put, List.setIfInBounds_toArray, List.set_cons_zero, List.set_cons_succ]
          refine wpAnyH_take (i := 2) (oi := { dst := some 42, op := Op.move (Operand.tmp 5), type := 3, pos := "ref.go:119", after := #[], guard := none }) (v := ?_) rfl (by kernel_rfl) (by kernel_rfl) (by kernel_rfl) (fun _ _ _ h => h) (Or.inl ⟨by rfl, ?_⟩) hHeld ?_
          rotate_left
          · intro w hSw
            try dsimp only at hSw
            go_simp
            try with_reducible rfl
          try simp only [Act.put, List.setIfInBounds_toArray, List.set_cons_zero, List.set_cons_succ]
          refine wpAnyH_take (i := 3) (oi := { dst := some 43, op := Op.slice 9 (Operand.tmp 41) (some (Operand.tmp 42)) none none, type := 9, pos := "ref.go:119", after := #[{ on := 1, ground := Ground.data }, { on := 2, ground := Ground.data }], guard := none }) (v := ?_) rfl (by kernel_rfl) (by kernel_rfl) (by kernel_rfl) (fun _ _ _ h => h) (Or.inl ⟨by rfl, ?_⟩) hHeld ?_
          rotate_left
          · intro w hSw
            try dsimp only at hSw
            go_simp
            try with_reducible rfl
          try simp only [Act.put, List.setIfInBounds_toArray, List.set_cons_zero, List.set_cons_succ]
          refine wpAnyH_take (i := 4) (oi := { dst := some 44, op := Op.fieldAddr 62 (Operand.tmp 1) 1, type := 0, pos := "ref.go:119", after := #[], guard := none }) (v := ?_) rfl (by kernel_rfl) (by kernel_rfl) (by kernel_rfl) (fun _ _ _ h => h) (Or.inl ⟨by rfl, ?_⟩) hHeld ?_
          rotate_left
          · intro w hSw
            try dsimp only at hSw
            go_simp
            try with_reducible rfl
          try simp only [Act.put, List.setIfInBounds_toArray, List.set_cons_zero, List.set_cons_succ]
          refine wpAnyH_take (i := 5) (oi := { dst := some 45, op := Op.load 4 (Operand.tmp 44), type := 4, pos := "ref.go:119", after := #[{ on := 4, ground := Ground.data }], guard := none }) (v := ?_) rfl (by kernel_rfl) (by kernel_rfl) (by kernel_rfl) (fun _ _ _ h => h) (Or.inl ⟨by rfl, ?_⟩) hHeld ?_
          rotate_left
          · intro w hSw
            try dsimp only at hSw
            go_simp
            try with_reducible rfl
          try simp only [Act.put, List.setIfInBounds_toArray, List.set_cons_zero, List.set_cons_succ]
          refine wpAnyH_take (i := 6) (oi := { dst := some 46, op := Op.move (Operand.tmp 45), type := 4, pos := "ref.go:119", after := #[{ on := 5, ground := Ground.data }], guard := none }) (v := ?_) rfl (by kernel_rfl) (by kernel_rfl) (by kernel_rfl) (fun _ _ _ h => h) (Or.inl ⟨by rfl, ?_⟩) hHeld ?_
          rotate_left
          · intro w hSw
            try dsimp only at hSw
            go_simp
            try with_reducible rfl
          try simp only [Act.put, List.setIfInBounds_toArray, List.set_cons_zero, List.set_cons_succ]
          refine wpAnyH_take (i := 7) (oi := { dst := some 47, op := Op.move (Operand.tmp 5), type := 3, pos := "ref.go:119", after := #[{ on := 6, ground := Ground.guard }], guard := some (6, false) }) (v := undef) rfl (by kernel_rfl) (by kernel_rfl) (by kernel_rfl) (fun _ _ _ h => h) (Or.inr ⟨by rfl, rfl⟩) hHeld ?_
          try simp only [Act.put, List.setIfInBounds_toArray, List.set_cons_zero, List.set_cons_succ]
          refine wpAnyH_take (i := 8) (oi := { dst := some 48, op := Op.binOp BinOp.eql 3 (Operand.tmp 47) (Operand.const (Value.int IntKind.i64 0)) 3, type := 4, pos := "ref.go:119", after := #[{ on := 7, ground := Ground.data }, { on := 6, ground := Ground.guard }], guard := some (6, false) }) (v := undef) rfl (by kernel_rfl) (by kernel_rfl) (by kernel_rfl) (fun _ _ _ h => h) (Or.inr ⟨by rfl, rfl⟩) hHeld ?_
          try simp only [Act.put, List.setIfInBounds_toArray, List.set_cons_zero, List.set_cons_succ]
          refine wpAnyH_take (i := 9) (oi := { dst := some 49, op := Op.pick (Operand.tmp 46) (Operand.const (Value.bool true)) (Operand.tmp 48), type := 4, pos := "ref.go:119", after := #[{ on := 6, ground := Ground.data }, { on := 8, ground := Ground.data }], guard := none }) (v := ?_) rfl (by kernel_rfl) (by kernel_rfl) (by kernel_rfl) (fun _ _ _ h => h) (Or.inl ⟨by rfl, ?_⟩) hHeld ?_
          rotate_left
          · intro w hSw
            try dsimp only at hSw
            go_simp
            try with_reducible rfl
          try simp only [Act.put, List.setIfInBounds_toArray, List.set_cons_zero, List.set_cons_succ]
          refine wpAnyH_take (i := 10) (oi := { dst := some 50, op := Op.build 62 #[(0, Operand.tmp 43), (1, Operand.tmp 49)], type := 62, pos := "ref.go:119", after := #[{ on := 3, ground := Ground.data }, { on := 9, ground := Ground.data }], guard := none }) (v := ?_) rfl (by kernel_rfl) (by kernel_rfl) (by kernel_rfl) (fun _ _ _ h => h) (Or.inl ⟨by rfl, ?_⟩) hHeld ?_
          rotate_left
          · intro w hSw
            try dsimp only at hSw
            go_simp
            try with_reducible rfl
          try simp only [Act.put, List.setIfInBounds_toArray, List.set_cons_zero, List.set_cons_succ]
          refine wpAnyH_take (i := 11) (oi := { dst := some 51, op := Op.move (Operand.tmp 4), type := 2, pos := "ref.go:119", after := #[{ on := 12, ground := Ground.gcOnly Departure.lateStores }], guard := none }) (v := ?_) rfl (by kernel_rfl) (by kernel_rfl) (by kernel_rfl) (fun _ _ _ h => h) (Or.inl ⟨by rfl, ?_⟩) hHeld ?_
          rotate_left
          · intro w hSw
            try dsimp only at hSw
            go_simp
            try with_reducible rfl
          try simp only [Act.put, List.setIfInBounds_toArray, List.set_cons_zero, List.set_cons_succ]
          refine wpAnyH_ready (rs := [12]) (by kernel_rfl) (by simp) ?_
          refine AllReadyH.cons (o := { dst := none, op := Op.store 62 (Operand.tmp 2) (Operand.tmp 50), type := 0, pos := "ref.go:119", after := #[{ on := 10, ground := Ground.data }, { on := 6, ground := Ground.chain }, { on := 0, ground := Ground.phase }, { on := 1, ground := Ground.phase }, { on := 2, ground := Ground.phase }, { on := 3, ground := Ground.phase }, { on := 4, ground := Ground.phase }, { on := 5, ground := Ground.phase }, { on := 6, ground := Ground.phase }, { on := 7, ground := Ground.phase }, { on := 8, ground := Ground.phase }, { on := 9, ground := Ground.phase }, { on := 10, ground := Ground.phase }, { on := 11, ground := Ground.textOnly Departure.lateStores }], guard := none }) rfl (fun K hK => ?_) (AllReadyH.nil)
          rw [if_pos (by rfl)]
          refine wp_store_g 62 (.tmp 2) (.tmp 50) rfl rfl g1 0 #[.string (s.extract j s.size), .bool true] #[.string (s.extract j s.size), .bool true] rfl rfl _ _ y0 (Nat.le_refl 2) (by kernel_rfl) (by kernel_rfl) (by kernel_rfl) ?_
          refine hK.out _ _ (rd_mk (Blk.rowFar hHeld.2.2 (by omega) _)) (fun hHeld2 => ?_)
          clear hK K hHeld; have hHeld := hHeld2; clear hHeld2
          try simp only [Act.put, List.setIfInBounds_toArray, List.set_cons_zero, List.set_cons_succ]
          refine wpAnyH_take (i := 13) (oi := { dst := some 3, op := Op.assign (Operand.tmp 51), type := 2, pos := "ref.go:119", after := #[{ on := 11, ground := Ground.data }, { on := 12, ground := Ground.chain }, { on := 0, ground := Ground.phase }, { on := 1, ground := Ground.phase }, { on := 2, ground := Ground.phase }, { on := 3, ground := Ground.phase }, { on := 4, ground := Ground.phase }, { on := 5, ground := Ground.phase }, { on := 6, ground := Ground.phase }, { on := 7, ground := Ground.phase }, { on := 8, ground := Ground.phase }, { on := 9, ground := Ground.phase }, { on := 10, ground := Ground.phase }, { on := 11, ground := Ground.phase }, { on := 12, ground := Ground.phase }], guard := none }) (v := ?_) rfl (by kernel_rfl) (by kernel_rfl) (by kernel_rfl) (fun _ _ _ h => h) (Or.inl ⟨by rfl, ?_⟩) hHeld ?_
          rotate_left
          · intro w hSw
            try dsimp only at hSw
            go_simp
            try with_reducible rfl
          try simp only [Act.put, List.setIfInBounds_toArray, List.set_cons_zero, List.set_cons_succ]
          refine wpAnyH_done (by kernel_rfl) ?_ _
          go_wp2_with fail
          refine bodyPost_ret (results_rt (p := 2) (a := 3) rfl _ _ _ _ #[.string (s.extract j s.size), .bool true] (.int .i64 (N : Int)) rfl rfl (Blk.row y0 _) rfl) rfl ⟨congrArg Ending.returned HV.out, below_row hb0.drew (by omega) _⟩
        · have HV := Lib.hid (show Value.tuple #[.agg #[.string (s.extract j s.size), .bool true], .int .i64 (N : Int)] = .tuple #[rv (numR 4 ⟨L s, false⟩).2, .int .i64 ((numR 4 ⟨L s, false⟩).1 : Int)] by rw [HE2.out, HX.out, hj0]; rfl)
          have e6 : ((j : Int) == 0) = true := by simp [hj0]
          clear HE2 HX hj0
          have c0 : wr.cell? ⟨w.heap.size, 0, none⟩ = some (.string s) := x0.cell 0
          go_upto_region 5 with fail
          clear c0
          refine wp_region_held_drew (S := fun w' => w'.cell? ⟨w.heap.size, 0, none⟩ = some (.string s) ∧ w'.cell? ⟨w.heap.size, 1, none⟩ = some (.bool false) ∧ Blk w' w.heap.size 62 #[.string s, .bool false]) (by kernel_rfl) (rd_mk (show Blk wr.drew w.heap.size 62 #[.string s, .bool false] from x0)) (fun hHeld => ?_)
          refine wpAnyH_take (i := 0) (oi := { dst := some 40, op := Op.fieldAddr 62 (Operand.tmp 1) 0, type := 0, pos := "ref.go:119", after := #[], guard := none }) (v := ?_) rfl (by kernel_rfl) (by kernel_rfl) (by kernel_rfl) (fun _ _ _ h => h) (Or.inl ⟨by rfl, ?_⟩) hHeld ?_
          rotate_left
          · intro w hSw
            try dsimp only at hSw
            go_simp
            try with_reducible rfl
          try simp only [Act.put, List.setIfInBounds_toArray, List.set_cons_zero, List.set_cons_succ]
          refine wpAnyH_take (i := 1) (oi := { dst := some 41, op := Op.load 9 (Operand.tmp 40), type := 9, pos := "ref.go:119", after := #[{ on := 0, ground := Ground.data }], guard := none }) (v := ?_) rfl (by kernel_rfl) (by kernel_rfl) (by kernel_rfl) (fun _ _ _ h => h) (Or.inl ⟨by rfl, ?_⟩) hHeld ?_
          rotate_left
          · intro w hSw
            try dsimp only at hSw
            go_simp
            try with_reducible rfl
          try simp only [Act.put, List.setIfInBounds_toArray, List.set_cons_zero, List.set_cons_succ]
          refine wpAnyH_take (i := 2) (oi := { dst := some 42, op := Op.move (Operand.tmp 5), type := 3, pos := "ref.go:119", after := #[], guard := none }) (v := ?_) rfl (by kernel_rfl) (by kernel_rfl) (by kernel_rfl) (fun _ _ _ h => h) (Or.inl ⟨by rfl, ?_⟩) hHeld ?_
          rotate_left
          · intro w hSw
            try dsimp only at hSw
            go_simp
            try with_reducible rfl
          try simp only [Act.put, List.setIfInBounds_toArray, List.set_cons_zero, List.set_cons_succ]
          refine wpAnyH_take (i := 3) (oi := { dst := some 43, op := Op.slice 9 (Operand.tmp 41) (some (Operand.tmp 42)) none none, type := 9, pos := "ref.go:119", after := #[{ on := 1, ground := Ground.data }, { on := 2, ground := Ground.data }], guard := none }) (v := ?_) rfl (by kernel_rfl) (by kernel_rfl) (by kernel_rfl) (fun _ _ _ h => h) (Or.inl ⟨by rfl, ?_⟩) hHeld ?_
          rotate_left
          · intro w hSw
            try dsimp only at hSw
            go_simp
            try with_reducible rfl
          try simp only [Act.put, List.setIfInBounds_toArray, List.set_cons_zero, List.set_cons_succ]
          refine wpAnyH_take (i := 4) (oi := { dst := some 44, op := Op.fieldAddr 62 (Operand.tmp 1) 1, type := 0, pos := "ref.go:119", after := #[], guard := none }) (v := ?_) rfl (by kernel_rfl) (by kernel_rfl) (by kernel_rfl) (fun _ _ _ h => h) (Or.inl ⟨by rfl, ?_⟩) hHeld ?_
          rotate_left
          · intro w hSw
            try dsimp only at hSw
            go_simp
            try with_reducible rfl
          try simp only [Act.put, List.setIfInBounds_toArray, List.set_cons_zero, List.set_cons_succ]
          refine wpAnyH_take (i := 5) (oi := { dst := some 45, op := Op.load 4 (Operand.tmp 44), type := 4, pos := "ref.go:119", after := #[{ on := 4, ground := Ground.data }], guard := none }) (v := ?_) rfl (by kernel_rfl) (by kernel_rfl) (by kernel_rfl) (fun _ _ _ h => h) (Or.inl ⟨by rfl, ?_⟩) hHeld ?_
          rotate_left
          · intro w hSw
            try dsimp only at hSw
            go_simp
            try with_reducible rfl
          try simp only [Act.put, List.setIfInBounds_toArray, List.set_cons_zero, List.set_cons_succ]
          refine wpAnyH_take (i := 6) (oi := { dst := some 46, op := Op.move (Operand.tmp 45), type := 4, pos := "ref.go:119", after := #[{ on := 5, ground := Ground.data }], guard := none }) (v := ?_) rfl (by kernel_rfl) (by kernel_rfl) (by kernel_rfl) (fun _ _ _ h => h) (Or.inl ⟨by rfl, ?_⟩) hHeld ?_
          rotate_left
          · intro w hSw
            try dsimp only at hSw
            go_simp
            try with_reducible rfl
          try simp only [Act.put, List.setIfInBounds_toArray, List.set_cons_zero, List.set_cons_succ]
          refine wpAnyH_take (i := 7) (oi := { dst := some 47, op := Op.move (Operand.tmp 5), type := 3, pos := "ref.go:119", after := #[{ on := 6, ground := Ground.guard }], guard := some (6, false) }) (v := ?_) rfl (by kernel_rfl) (by kernel_rfl) (by kernel_rfl) (fun _ _ _ h => h) (Or.inl ⟨by rfl, ?_⟩) hHeld ?_
          rotate_left
          · intro w hSw
            try dsimp only at hSw
            go_simp
            try with_reducible rfl
          try simp only [Act.put, List.setIfInBounds_toArray, List.set_cons_zero, List.set_cons_succ]
          refine wpAnyH_take (i := 8) (oi := { dst := some 48, op := Op.binOp BinOp.eql 3 (Operand.tmp 47) (Operand.const (Value.int IntKind.i64 0)) 3, type := 4, pos := "ref.go:119", after := #[{ on := 7, ground := Ground.data }, { on := 6, ground := Ground.guard }], guard := some (6, false) }) (v := ?_) rfl (by kernel_rfl) (by kernel_rfl) (by kernel_rfl) (fun _ _ _ h => h) (Or.inl ⟨by rfl, ?_⟩) hHeld ?_
          rotate_left
          · intro w hSw
            try dsimp only at hSw
            go_simp
            try with_reducible rfl
          try simp only [Act.put, List.setIfInBounds_toArray, List.set_cons_zero, List.set_cons_succ]
          refine wpAnyH_take (i := 9) (oi := { dst := some 49, op := Op.pick (Operand.tmp 46) (Operand.const (Value.bool true)) (Operand.tmp 48), type := 4, pos := "ref.go:119", after := #[{ on := 6, ground := Ground.data }, { on := 8, ground := Ground.data }], guard := none }) (v := ?_) rfl (by kernel_rfl) (by kernel_rfl) (by kernel_rfl) (fun _ _ _ h => h) (Or.inl ⟨by rfl, ?_⟩) hHeld ?_
          rotate_left
          · intro w hSw
            try dsimp only at hSw
            go_simp
            try with_reducible rfl
          try simp only [Act.put, List.setIfInBounds_toArray, List.set_cons_zero, List.set_cons_succ]
          refine wpAnyH_take (i := 10) (oi := { dst := some 50, op := Op.build 62 #[(0, Operand.tmp 43), (1, Operand.tmp 49)], type := 62, pos := "ref.go:119", after := #[{ on := 3, ground := Ground.data }, { on := 9, ground := Ground.data }], guard := none }) (v := ?_) rfl (by kernel_rfl) (by kernel_rfl) (by kernel_rfl) (fun _ _ _ h => h) (Or.inl ⟨by rfl, ?_⟩) hHeld ?_
          rotate_left
          · intro w hSw
            try dsimp only at hSw
            go_simp
            try with_reducible rfl
          try simp only [Act.put, List.setIfInBounds_toArray, List.set_cons_zero, List.set_cons_succ]
          refine wpAnyH_take (i := 11) (oi := { dst := some 51, op := Op.move (Operand.tmp 4), type := 2, pos := "ref.go:119", after := #[{ on := 12, ground := Ground.gcOnly Departure.lateStores }], guard := none }) (v := ?_) rfl (by kernel_rfl) (by kernel_rfl) (by kernel_rfl) (fun _ _ _ h => h) (Or.inl ⟨by rfl, ?_⟩) hHeld ?_
          rotate_left
          · intro w hSw
            try dsimp only at hSw
            go_simp
            try with_reducible rfl
          try simp only [Act.put, List.setIfInBounds_toArray, List.set_cons_zero, List.set_cons_succ]
          refine wpAnyH_ready (rs := [12]) (by kernel_rfl) (by simp) ?_
          refine AllReadyH.cons (o := { dst := none, op := Op.store 62 (Operand.tmp 2) (Operand.tmp 50), type := 0, pos := "ref.go:119", after := #[{ on := 10, ground := Ground.data }, { on := 6, ground := Ground.chain }, { on := 0, ground := Ground.phase }, { on := 1, ground := Ground.phase }, { on := 2, ground := Ground.phase }, { on := 3, ground := Ground.phase }, { on := 4, ground := Ground.phase }, { on := 5, ground := Ground.phase }, { on := 6, ground := Ground.phase }, { on := 7, ground := Ground.phase }, { on := 8, ground := Ground.phase }, { on := 9, ground := Ground.phase }, { on := 10, ground := Ground.phase }, { on := 11, ground := Ground.textOnly Departure.lateStores }], guard := none }) rfl (fun K hK => ?_) (AllReadyH.nil)
          rw [if_pos (by rfl)]
          refine wp_store_g 62 (.tmp 2) (.tmp 50) rfl rfl g1 0 #[.string (s.extract j s.size), .bool true] #[.string (s.extract j s.size), .bool true] rfl rfl _ _ y0 (Nat.le_refl 2) (by kernel_rfl) (by kernel_rfl) (by kernel_rfl) ?_
          refine hK.out _ _ (rd_mk (Blk.rowFar hHeld.2.2 (by omega) _)) (fun hHeld2 => ?_)
          clear hK K hHeld; have hHeld := hHeld2; clear hHeld2
          try simp only [Act.put, List.setIfInBounds_toArray, List.set_cons_zero, List.set_cons_succ]
          refine wpAnyH_take (i := 13) (oi := { dst := some 3, op := Op.assign (Operand.tmp 51), type := 2, pos := "ref.go:119", after := #[{ on := 11, ground := Ground.data }, { on := 12, ground := Ground.chain }, { on := 0, ground := Ground.phase }, { on := 1, ground := Ground.phase }, { on := 2, ground := Ground.phase }, { on := 3, ground := Ground.phase }, { on := 4, ground := Ground.phase }, { on := 5, ground := Ground.phase }, { on := 6, ground := Ground.phase }, { on := 7, ground := Ground.phase }, { on := 8, ground := Ground.phase }, { on := 9, ground := Ground.phase }, { on := 10, ground := Ground.phase }, { on := 11, ground := Ground.phase }, { on := 12, ground := Ground.phase }], guard := none }) (v := ?_) rfl (by kernel_rfl) (by kernel_rfl) (by kernel_rfl) (fun _ _ _ h => h) (Or.inl ⟨by rfl, ?_⟩) hHeld ?_
          rotate_left
          · intro w hSw
            try dsimp only at hSw
            go_simp
            try with_reducible rfl
          try simp only [Act.put, List.setIfInBounds_toArray, List.set_cons_zero, List.set_cons_succ]
          refine wpAnyH_done (by kernel_rfl) ?_ _
          go_wp2_with fail
          refine bodyPost_ret (results_rt (p := 2) (a := 3) rfl _ _ _ _ #[.string (s.extract j s.size), .bool true] (.int .i64 (N : Int)) rfl rfl (Blk.row y0 _) rfl) rfl ⟨congrArg Ending.returned HV.out, below_row hb0.drew (by omega) _⟩
        · have HV := Lib.hid (show Value.tuple #[.agg #[.string (s.extract j s.size), .bool false], .int .i64 (N : Int)] = .tuple #[rv (numR 4 ⟨L s, false⟩).2, .int .i64 ((numR 4 ⟨L s, false⟩).1 : Int)] by rw [HE2.out, HX.out]; dsimp only; rw [show (j == 0) = false by simp [hj0], Bool.or_false])
          have e6 : ((j : Int) == 0) = false := by simp [hj0]
          clear HE2 HX hj0
          have c0 : wr.cell? ⟨w.heap.size, 0, none⟩ = some (.string s) := x0.cell 0
          go_upto_region 5 with fail
          clear c0
          refine wp_region_held_drew (S := fun w' => w'.cell? ⟨w.heap.size, 0, none⟩ = some (.string s) ∧ w'.cell? ⟨w.heap.size, 1, none⟩ = some (.bool false) ∧ Blk w' w.heap.size 62 #[.string s, .bool false]) (by kernel_rfl) (rd_mk (show Blk wr.drew w.heap.size 62 #[.string s, .bool false] from x0)) (fun hHeld => ?_)
          refine wpAnyH_take (i := 0) (oi := { dst := some 40, op := Op.fieldAddr 62 (Operand.tmp 1) 0, type := 0, pos := "ref.go:119", after := #[], guard := none }) (v := ?_) rfl (by kernel_rfl) (by kernel_rfl) (by kernel_rfl) (fun _ _ _ h => h) (Or.inl ⟨by rfl, ?_⟩) hHeld ?_
          rotate_left
          · intro w hSw
            try dsimp only at hSw
            go_simp
            try with_reducible rfl
          try simp only [Act.put, List.setIfInBounds_toArray, List.set_cons_zero, List.set_cons_succ]
          refine wpAnyH_take (i := 1) (oi := { dst := some 41, op := Op.load 9 (Operand.tmp 40), type := 9, pos := "ref.go:119", after := #[{ on := 0, ground := Ground.data }], guard := none }) (v := ?_) rfl (by kernel_rfl) (by kernel_rfl) (by kernel_rfl) (fun _ _ _ h => h) (Or.inl ⟨by rfl, ?_⟩) hHeld ?_
          rotate_left
          · intro w hSw
            try dsimp only at hSw
            go_simp
            try with_reducible rfl
          try simp only [Act.put, List.setIfInBounds_toArray, List.set_cons_zero, List.set_cons_succ]
          refine wpAnyH_take (i := 2) (oi := { dst := some 42, op := Op.move (Operand.tmp 5), type := 3, pos := "ref.go:119", after := #[], guard := none }) (v := ?_) rfl (by kernel_rfl) (by kernel_rfl) (by kernel_rfl) (fun _ _ _ h => h) (Or.inl ⟨by rfl, ?_⟩) hHeld ?_
          rotate_left
          · intro w hSw
            try dsimp only at hSw
            go_simp
            try with_reducible rfl
          try simp only [Act.put, List.setIfInBounds_toArray, List.set_cons_zero, List.set_cons_succ]
          refine wpAnyH_take (i := 3) (oi := { dst := some 43, op := Op.slice 9 (Operand.tmp 41) (some (Operand.tmp 42)) none none, type := 9, pos := "ref.go:119", after := #[{ on := 1, ground := Ground.data }, { on := 2, ground := Ground.data }], guard := none }) (v := ?_) rfl (by kernel_rfl) (by kernel_rfl) (by kernel_rfl) (fun _ _ _ h => h) (Or.inl ⟨by rfl, ?_⟩) hHeld ?_
          rotate_left
          · intro w hSw
            try dsimp only at hSw
            go_simp
            try with_reducible rfl
          try simp only [Act.put, List.setIfInBounds_toArray, List.set_cons_zero, List.set_cons_succ]
          refine wpAnyH_take (i := 4) (oi := { dst := some 44, op := Op.fieldAddr 62 (Operand.tmp 1) 1, type := 0, pos := "ref.go:119", after := #[], guard := none }) (v := ?_) rfl (by kernel_rfl) (by kernel_rfl) (by kernel_rfl) (fun _ _ _ h => h) (Or.inl ⟨by rfl, ?_⟩) hHeld ?_
          rotate_left
          · intro w hSw
            try dsimp only at hSw
            go_simp
            try with_reducible rfl
          try simp only [Act.put, List.setIfInBounds_toArray, List.set_cons_zero, List.set_cons_succ]
          refine wpAnyH_take (i := 5) (oi := { dst := some 45, op := Op.load 4 (Operand.tmp 44), type := 4, pos := "ref.go:119", after := #[{ on := 4, ground := Ground.data }], guard := none }) (v := ?_) rfl (by kernel_rfl) (by kernel_rfl) (by kernel_rfl) (fun _ _ _ h => h) (Or.inl ⟨by rfl, ?_⟩) hHeld ?_
          rotate_left
          · intro w hSw
            try dsimp only at hSw
            go_simp
            try with_reducible rfl
          try simp only [Act.put, List.setIfInBounds_toArray, List.set_cons_zero, List.set_cons_succ]
          refine wpAnyH_take (i := 6) (oi := { dst := some 46, op := Op.move (Operand.tmp 45), type := 4, pos := "ref.go:119", after := #[{ on := 5, ground := Ground.data }], guard := none }) (v := ?_) rfl (by kernel_rfl) (by kernel_rfl) (by kernel_rfl) (fun _ _ _ h => h) (Or.inl ⟨by rfl, ?_⟩) hHeld ?_
          rotate_left
          · intro w hSw
            try dsimp only at hSw
            go_simp
            try with_reducible rfl
          try simp only [Act.put, List.setIfInBounds_toArray, List.set_cons_zero, List.set_cons_succ]
          refine wpAnyH_take (i := 7) (oi := { dst := some 47, op := Op.move (Operand.tmp 5), type := 3, pos := "ref.go:119", after := #[{ on := 6, ground := Ground.guard }], guard := some (6, false) }) (v := ?_) rfl (by kernel_rfl) (by kernel_rfl) (by kernel_rfl) (fun _ _ _ h => h) (Or.inl ⟨by rfl, ?_⟩) hHeld ?_
          rotate_left
          · intro w hSw
            try dsimp only at hSw
            go_simp
            try with_reducible rfl
          try simp only [Act.put, List.setIfInBounds_toArray, List.set_cons_zero, List.set_cons_succ]
          refine wpAnyH_take (i := 8) (oi := { dst := some 48, op := Op.binOp BinOp.eql 3 (Operand.tmp 47) (Operand.const (Value.int IntKind.i64 0)) 3, type := 4, pos := "ref.go:119", after := #[{ on := 7, ground := Ground.data }, { on := 6, ground := Ground.guard }], guard := some (6, false) }) (v := ?_) rfl (by kernel_rfl) (by kernel_rfl) (by kernel_rfl) (fun _ _ _ h => h) (Or.inl ⟨by rfl, ?_⟩) hHeld ?_
          rotate_left
          · intro w hSw
            try dsimp only at hSw
            go_simp
            try with_reducible rfl
          try simp only [Act.put, List.setIfInBounds_toArray, List.set_cons_zero, List.set_cons_succ]
          refine wpAnyH_take (i := 9) (oi := { dst := some 49, op := Op.pick (Operand.tmp 46) (Operand.const (Value.bool true)) (Operand.tmp 48), type := 4, pos := "ref.go:119", after := #[{ on := 6, ground := Ground.data }, { on := 8, ground := Ground.data }], guard := none }) (v := ?_) rfl (by kernel_rfl) (by kernel_rfl) (by kernel_rfl) (fun _ _ _ h => h) (Or.inl ⟨by rfl, ?_⟩) hHeld ?_
          rotate_left
          · intro w hSw
            try dsimp only at hSw
            go_simp
            try with_reducible rfl
          try simp only [Act.put, List.setIfInBounds_toArray, List.set_cons_zero, List.set_cons_succ]
          refine wpAnyH_take (i := 10) (oi := { dst := some 50, op := Op.build 62 #[(0, Operand.tmp 43), (1, Operand.tmp 49)], type := 62, pos := "ref.go:119", after := #[{ on := 3, ground := Ground.data }, { on := 9, ground := Ground.data }], guard := none }) (v := ?_) rfl (by kernel_rfl) (by kernel_rfl) (by kernel_rfl) (fun _ _ _ h => h) (Or.inl ⟨by rfl, ?_⟩) hHeld ?_
          rotate_left
          · intro w hSw
            try dsimp only at hSw
            go_simp
            try with_reducible rfl
          try simp only [Act.put, List.setIfInBounds_toArray, List.set_cons_zero, List.set_cons_succ]
          refine wpAnyH_take (i := 11) (oi := { dst := some 51, op := Op.move (Operand.tmp 4), type := 2, pos := "ref.go:119", after := #[{ on := 12, ground := Ground.gcOnly Departure.lateStores }], guard := none }) (v := ?_) rfl (by kernel_rfl) (by kernel_rfl) (by kernel_rfl) (fun _ _ _ h => h) (Or.inl ⟨by rfl, ?_⟩) hHeld ?_
          rotate_left
          · intro w hSw
            try dsimp only at hSw
            go_simp
            try with_reducible rfl
          try simp only [Act.put, List.setIfInBounds_toArray, List.set_cons_zero, List.set_cons_succ]
          refine wpAnyH_ready (rs := [12]) (by kernel_rfl) (by simp) ?_
          refine AllReadyH.cons (o := { dst := none, op := Op.store 62 (Operand.tmp 2) (Operand.tmp 50), type := 0, pos := "ref.go:119", after := #[{ on := 10, ground := Ground.data }, { on := 6, ground := Ground.chain }, { on := 0, ground := Ground.phase }, { on := 1, ground := Ground.phase }, { on := 2, ground := Ground.phase }, { on := 3, ground := Ground.phase }, { on := 4, ground := Ground.phase }, { on := 5, ground := Ground.phase }, { on := 6, ground := Ground.phase }, { on := 7, ground := Ground.phase }, { on := 8, ground := Ground.phase }, { on := 9, ground := Ground.phase }, { on := 10, ground := Ground.phase }, { on := 11, ground := Ground.textOnly Departure.lateStores }], guard := none }) rfl (fun K hK => ?_) (AllReadyH.nil)
          rw [if_pos (by rfl)]
          refine wp_store_g 62 (.tmp 2) (.tmp 50) rfl rfl g1 0 #[.string (s.extract j s.size), .bool false] #[.string (s.extract j s.size), .bool false] rfl rfl _ _ y0 (Nat.le_refl 2) (by kernel_rfl) (by kernel_rfl) (by kernel_rfl) ?_
          refine hK.out _ _ (rd_mk (Blk.rowFar hHeld.2.2 (by omega) _)) (fun hHeld2 => ?_)
          clear hK K hHeld; have hHeld := hHeld2; clear hHeld2
          try simp only [Act.put, List.setIfInBounds_toArray, List.set_cons_zero, List.set_cons_succ]
          refine wpAnyH_take (i := 13) (oi := { dst := some 3, op := Op.assign (Operand.tmp 51), type := 2, pos := "ref.go:119", after := #[{ on := 11, ground := Ground.data }, { on := 12, ground := Ground.chain }, { on := 0, ground := Ground.phase }, { on := 1, ground := Ground.phase }, { on := 2, ground := Ground.phase }, { on := 3, ground := Ground.phase }, { on := 4, ground := Ground.phase }, { on := 5, ground := Ground.phase }, { on := 6, ground := Ground.phase }, { on := 7, ground := Ground.phase }, { on := 8, ground := Ground.phase }, { on := 9, ground := Ground.phase }, { on := 10, ground := Ground.phase }, { on := 11, ground := Ground.phase }, { on := 12, ground := Ground.phase }], guard := none }) (v := ?_) rfl (by kernel_rfl) (by kernel_rfl) (by kernel_rfl) (fun _ _ _ h => h) (Or.inl ⟨by rfl, ?_⟩) hHeld ?_
          rotate_left
          · intro w hSw
            try dsimp only at hSw
            go_simp
            try with_reducible rfl
          try simp only [Act.put, List.setIfInBounds_toArray, List.set_cons_zero, List.set_cons_succ]
          refine wpAnyH_done (by kernel_rfl) ?_ _
          go_wp2_with fail
          refine bodyPost_ret (results_rt (p := 2) (a := 3) rfl _ _ _ _ #[.string (s.extract j s.size), .bool false] (.int .i64 (N : Int)) rfl rfl (Blk.row y0 _) rfl) rfl ⟨congrArg Ending.returned HV.out, below_row hb0.drew (by omega) _⟩
    · have hjk2 : j < 4 := by
        rcases Nat.lt_or_ge j 4 with q | q
        · exact q
        · exact absurd (.inl (by omega)) hc
      have hjl : j < s.size := by
        rcases Nat.lt_or_ge j s.size with q | q
        · exact q
        · exact absurd (.inr (fun z => by rw [L_len] at z; omega)) hc
      have hdg : dgB s[j] = true := by
        cases q : dgB s[j] with
        | true => rfl
        | false => exact absurd (.inr (fun z => q)) hc
      have hkl : j < (L s).length := by rw [L_len]; exact hjl
      have hbv : 48 ≤ s[j].toNat ∧ s[j].toNat ≤ 57 := by unfold dgB at hdg; rwa [decide_eq_true_eq] at hdg
      have f1 : (48 : Int) ≤ (s[j].toNat : Int) := by omega
      have f2 : (s[j].toNat : Int) ≤ 57 := by omega
      have HT := Lib.hid (show ∀ b ∈ (L s).take (j + 1), dgB b = true from fun b hb' => by
        rw [List.take_succ_eq_append_getElem hkl] at hb'
        rcases List.mem_append.1 hb' with q | q
        · exact HA.out b q
        · rw [List.mem_singleton.1 q]; exact hdg)
      have HV := Lib.hid (show (numN ((L s).take (j + 1)) : Int) = 10 * (numN ((L s).take j) : Int) + ((s[j].toNat : Int) - 48) by
        rw [List.take_succ_eq_append_getElem hkl, numN_snoc]
        have : (L s)[j] = s[j] := rfl
        rw [this]; omega)
      have hN9 : numN ((L s).take j) ≤ 999 := hb3 (by omega)
      generalize numN ((L s).take j) = N at *
      have e1' : (j : Int) < 4 := by omega
      have e2' : (j : Int) < (s.size : Int) := by omega
      have wv : IntKind.u8.wrap ((s[j].toNat : Int) - 48) = (s[j].toNat : Int) - 48 := by simp [IntKind.wrap, IntKind.bits, IntKind.signed]; omega
      have wv2 : IntKind.i64.wrap ((s[j].toNat : Int) - 48) = (s[j].toNat : Int) - 48 := by simp [IntKind.wrap, IntKind.bits, IntKind.signed]; omega
      have c0 : wr.cell? ⟨w.heap.size, 0, none⟩ = some (.string s) := x0.cell 0
      clear hc hdg HA hb3
      go_wp2_with fail
      go_roundw
      case rel => exact ⟨j + 1, by go_num, by omega, by omega, HT.out, by rw [HV.out], by trivial⟩
      case measure => simp [intOf]; omega
theorem rnm_any (x : Rs) (w : World) (hx : x.s.length ≤ 100000) : Calls Tryd.prog 59 #[rv x] w fun e w' => e = .returned (.tuple #[rv (numR 4 x).2, .int .i64 ((numR 4 x).1 : Int)]) ∧ Below w.heap.size w w' :=
  rnm_s (B x.s) x.bad w (by rw [B_len]; exact hx)
end Go.Proofs.YtgdgkgeoigljcaaDoor.Fo

namespace Go.Proofs.YtgdgkgeoigljcaaDoor.Fo
open Go.ChangeShapes Go.WideShapes Go.ChangeAt Go.RowKit Go.Shelf
open Go.Proofs.YtgdgkgeoigljcaaDoor
open Go.Proofs.YtgdgkgeoigljcaaDoor.Wd
open Go.Proofs.YtgdgkgeoigljcaaDoor.Rec
set_option linter.unusedVariables false
set_option linter.unusedSimpArgs false
theorem nameq_lt {l r : List UInt8} {b : UInt8} {bad : Bool} (h : l = b :: r) (h0 : ltN l = 0) : nameQ ⟨l, bad⟩ = if b = 60 ∧ (cutC 62 r).2.2 = true then ((cutC 62 r).1, ⟨(cutC 62 r).2.1, bad⟩) else ([], ⟨l, true⟩) := by
  subst h
  unfold nameQ; dsimp only; rw [if_pos h0]
theorem cut_at (c : UInt8) : ∀ (l : List UInt8) (k : Nat), (∀ b ∈ l.take k, b ≠ c) → (h : k < l.length) → l[k] = c → cutC c l = (l.take k, l.drop (k + 1), true)
  | [], k, _, h, _ => by simp at h
  | b :: r, 0, _, _, e => by
    show (if b = c then _ else _) = _
    rw [if_pos (by exact e)]; rfl
  | b :: r, k + 1, h1, h2, h3 => by
    show (if b = c then _ else (b :: (cutC c r).1, (cutC c r).2.1, (cutC c r).2.2)) = _
    rw [if_neg (h1 b (by simp)), cut_at c r k (fun x hx => h1 x (by simp [hx])) (by simpa using h2) (by simpa using h3)]; rfl
theorem cut_none (c : UInt8) : ∀ l : List UInt8, (∀ b ∈ l, b ≠ c) → cutC c l = (l, [], false)
  | [], _ => rfl
  | b :: r, h => by
    show (if b = c then _ else (b :: (cutC c r).1, (cutC c r).2.1, (cutC c r).2.2)) = _
    rw [if_neg (h b (by simp)), cut_none c r (fun x hx => h x (by simp [hx]))]
theorem ext_all1 (s : ByteArray) : s.extract s.size s.size = ByteArray.empty := by apply ByteArray.ext; simp
theorem ext_all2 (s : ByteArray) : s.extract 0 s.size = s := by apply ByteArray.ext; simp
theorem drop1_at (s : ByteArray) (m : Nat) (h : m + 1 < s.size) (h2 : m < ((L s).drop 1).length) : ((L s).drop 1)[m] = s[m + 1] := by
  rw [List.getElem_drop]
  simp only [Nat.add_comm 1 m]; rfl
theorem ext_mid (s : ByteArray) (m : Nat) : s.extract 1 (m + 1) = B (((L s).drop 1).take m) := by
  apply ByteArray.ext; apply Array.toList_inj.1
  simp [L, B]
theorem ext_one (s : ByteArray) (k : Nat) (h : k < s.size) : s.extract k (k + 1) = ⟨#[s[k]]⟩ := by
  apply ByteArray.ext; apply Array.toList_inj.1
  have hk : k < s.data.toList.length := by rw [Array.length_toList]; exact h
  simp only [ByteArray.data_extract, Array.toList_extract, List.extract_eq_take_drop, Nat.add_sub_cancel_left]
  rw [List.drop_eq_getElem_cons hk]; rfl
theorem let_one (s : ByteArray) (k : Nat) (h : k < s.size) : allB letB (L (s.extract k (k + 1))) = letB s[k] := by
  rw [ext_one s k h]; show ([s[k]].all letB) = _; simp
set_option maxRecDepth 20000 in
set_option maxHeartbeats 6400000 in
theorem rnme_s (s : ByteArray) (bad : Bool) (w : World) (hs : s.size ≤ 100000) :
    Calls Tryd.prog 33 #[.agg #[.string s, .bool bad]] w fun e w' => e = .returned (.tuple #[rv (nameQ ⟨L s, bad⟩).2, .string (B (nameQ ⟨L s, bad⟩).1)]) ∧ Below w.heap.size w w' := by
  obtain ⟨g1, hg1⟩ : ∃ g1, g1 = w.heap.size + 1 := ⟨_, rfl⟩
  have x0 := (Blk.new w 62 #[.string s, .bool bad]).alloc (.cells #[.string ⟨#[]⟩, .bool false] 62)
  have y0 : Blk ((w.alloc (.cells #[.string s, .bool bad] 62)).alloc (.cells #[.string ⟨#[]⟩, .bool false] 62)) g1 62 #[.string ⟨#[]⟩, .bool false] := by have := blk_at' (w.alloc (.cells #[.string s, .bool bad] 62)) 62 #[.string ⟨#[]⟩, .bool false] (sz1 w (.cells #[.string s, .bool bad] 62) rfl); rw [hg1]; exact this
  have hb0 : Below w.heap.size w ((w.alloc (.cells #[.string s, .bool bad] 62)).alloc (.cells #[.string ⟨#[]⟩, .bool false] 62)) := ((Below.refl _ w).alloc (Nat.le_refl _) _).alloc (by rw [sz1 _ _ rfl]; exact Nat.le_succ _) _
  go_enter Tryd.func33, Tryd.ntmps33
  go_upto_region 1 with fail
  generalize (w.alloc (.cells #[.string s, .bool bad] 62)).alloc (.cells #[.string ⟨#[]⟩, .bool false] 62) = W at *
  rw [← hg1]
  have hgl : w.heap.size < g1 := by omega
  clear hg1
  go_wp2_with fail
  go_loopw [4] (fun i w' => ∃ k : Nat, i = .int .i64 (k : Int) ∧ k ≤ s.size ∧ (∀ b ∈ (L s).take k, letB b = true) ∧ w' = W) (fun i _ => s.size - (intOf i).toNat)
  case atStart => exact ⟨0, rfl, Nat.zero_le _, (fun b hb => by simp at hb), rfl⟩
  case round =>
    obtain ⟨k, rfl, hk, hall, rfl⟩ := hrel
    have HA := Lib.hid hall; clear hall
    by_cases hlt : k < s.size
    · have hlt' : (k : Int) < (s.size : Int) := by omega
      have hlt2 : (k : Int) + 1 ≤ (s.size : Int) := by omega
      have hlt3 : (k : Int) ≤ (k : Int) + 1 := by omega
      have hkl : k < (L s).length := by rw [L_len]; exact hlt
      have hq := fun w => rlet_any (s.extract k (k + 1)) w (by rw [ext_one s k hlt]; show (1 : Nat) ≤ 2 ^ 63 - 1; decide)
      rw [let_one s k hlt] at hq
      cases hb : letB s[k] with
      | true =>
        have HT := Lib.hid (show ∀ b ∈ (L s).take (k + 1), letB b = true from fun b hb' => by
          rw [List.take_succ_eq_append_getElem hkl] at hb'
          rcases List.mem_append.1 hb' with q | q
          · exact HA.out b q
          · rw [List.mem_singleton.1 q]; exact hb)
        rw [hb] at hq
        clear HA hb
        have c0 : wr.cell? ⟨w.heap.size, 0, none⟩ = some (.string s) := x0.cell 0
        go_wp2_with (refine (hq _).mono ?_; rintro e w1 ⟨rfl, rfl⟩)
        go_roundw
        case rel => exact ⟨k + 1, by go_num, by omega, HT.out, by trivial⟩
        case measure => simp [intOf]; omega
      | false =>
        have HE := Lib.hid (show ltN (L s) = k from ltN_at _ _ HA.out (fun h => hb) (by rw [L_len]; omega))
        rw [hb] at hq
        clear HA hb hkl
        have c0 : wr.cell? ⟨w.heap.size, 0, none⟩ = some (.string s) := x0.cell 0
        by_cases hk0 : k = 0
        · have g0 : ¬ (0 : Int) < (k : Int) := by omega
          have g0d : decide ((0 : Int) < (k : Int)) = false := decide_eq_false g0
          have g0n : decide (0 < k) = false := decide_eq_false (by omega)
          replace HE := Lib.hid (HE.out.trans hk0)
          clear hk0
          have hp0 : (0 : Int) < (s.size : Int) := by omega
          have hL : L s = s[0] :: (L s).drop 1 := by have := List.drop_eq_getElem_cons (l := L s) (i := 0) (by rw [L_len]; omega); exact this
          by_cases h60 : s[0] = 60
          · have f60 : ((s[0].toNat : Int) == 60) = true := by rw [h60]; rfl
            have HQ := Lib.hid (show nameQ ⟨L s, bad⟩ = if (cutC 62 ((L s).drop 1)).2.2 = true then ((cutC 62 ((L s).drop 1)).1, ⟨(cutC 62 ((L s).drop 1)).2.1, bad⟩) else ([], ⟨L s, true⟩) by
              rw [nameq_lt hL HE.out]
              by_cases q : (cutC 62 (List.drop 1 (L s))).2.2 = true
              · rw [if_pos ⟨h60, q⟩, if_pos q]
              · rw [if_neg (fun e => q e.2), if_neg q])
            clear HE h60 hL
            go_wp2_with (refine (hq _).mono ?_; rintro e w1 ⟨rfl, hw⟩; rw [hw]; clear hw w1)
            go_loopw [5] (fun i w' => ∃ m : Nat, i = .int .i64 ((m : Int) + 1) ∧ m + 1 ≤ s.size ∧ (∀ b ∈ ((L s).drop 1).take m, b ≠ 62) ∧ w' = wr) (fun i _ => s.size - (intOf i).toNat)
            case atStart => exact ⟨0, rfl, by omega, (fun b hb => by simp at hb), rfl⟩
            case round =>
              obtain ⟨m, rfl, hm, hno, rfl⟩ := hrel
              have HN := Lib.hid hno; clear hno
              by_cases hlt2 : m + 1 < s.size
              · have hltI : (m : Int) + 1 < (s.size : Int) := by omega
                have hdl : m < ((L s).drop 1).length := by rw [List.length_drop, L_len]; omega
                have hdg := drop1_at s m hlt2 hdl
                obtain ⟨c, hcd⟩ : ∃ c, s[m + 1] = c := ⟨_, rfl⟩
                have hcI : (s[m + 1].toNat : Int) = (c.toNat : Int) := by rw [hcd]
                by_cases h62 : c = 62
                · have HC := cut_at 62 _ m HN.out hdl (by rw [hdg, hcd]; exact h62)
                  have HV := Lib.hid (show Value.tuple #[.agg #[.string (s.extract (m + 1 + 1) s.size), .bool bad], .string (s.extract 1 (m + 1))] = .tuple #[rv (nameQ ⟨L s, bad⟩).2, .string (B (nameQ ⟨L s, bad⟩).1)] by rw [HQ.out, HC]; rw [if_pos rfl]; dsimp only; rw [ext_drop, List.drop_drop, show 1 + (m + 1) = m + 1 + 1 by omega, ext_mid])
                  have f62 : ((s[m + 1].toNat : Int) == 62) = true := by rw [hcd, h62]; rfl
                  have g1I : (m : Int) + 1 + 1 ≤ (s.size : Int) := by omega
                  have g3I : (0 : Int) ≤ (m : Int) + 1 + 1 := by omega
                  have g4I : ((m : Int) + 1 + 1).toNat = m + 1 + 1 := by omega
                  have g5I : ((m : Int) + 1).toNat = m + 1 := by omega
                  have g6I : IntKind.i64.wrap ((m : Int) + 1 + 1) = (m : Int) + 1 + 1 := by simp [IntKind.wrap, IntKind.bits, IntKind.signed]; omega
                  have g7I : (m : Int) + 1 ≤ (s.size : Int) := by omega
                  have g2I : (1 : Int) ≤ (m : Int) + 1 := by omega
                  clear HC HQ hdg hdl hcd hcI h62 HN
                  have c0 : wr.cell? ⟨w.heap.size, 0, none⟩ = some (.string s) := x0.cell 0
                  go_upto_region 10 with fail
                  clear c0
                  refine wp_region_held_drew (S := fun w' => w'.cell? ⟨w.heap.size, 0, none⟩ = some (.string s) ∧ w'.cell? ⟨w.heap.size, 1, none⟩ = some (.bool bad) ∧ Blk w' w.heap.size 62 #[.string s, .bool bad]) (by kernel_rfl) (rd_mk (show Blk wr.drew w.heap.size 62 #[.string s, .bool bad] from x0)) (fun hHeld => ?_)
                  refine wpAnyH_take (i := 0) (oi := { dst := some 53, op := Op.fieldAddr 62 (Operand.tmp 1) 0, type := 0, pos := "ref.go:106", after := #[], guard := none }) (v := ?_) rfl (by kernel_rfl) (by kernel_rfl) (by kernel_rfl) (fun _ _ _ h => h) (Or.inl ⟨by rfl, ?_⟩) hHeld ?_
                  rotate_left
                  · intro w hSw
                    try dsimp only at hSw
                    go_simp
                    try with_reducible rfl
                  try simp only [Act.put, List.setIfInBounds_toArray, List.set_cons_zero, List.set_cons_succ]
                  refine wpAnyH_take (i := 1) (oi := { dst := some 54, op := Op.load 9 (Operand.tmp 53), type := 9, pos := "ref.go:106", after := #[{ on := 0, ground := Ground.data }], guard := none }) (v := ?_) rfl (by kernel_rfl) (by kernel_rfl) (by kernel_rfl) (fun _ _ _ h => h) (Or.inl ⟨by rfl, ?_⟩) hHeld ?_
                  rotate_left
                  · intro w hSw
                    try dsimp only at hSw
                    go_simp
                    try with_reducible rfl
                  try simp only [Act.put, List.setIfInBounds_toArray, List.set_cons_zero, List.set_cons_succ]
                  refine wpAnyH_take (i := 2) (oi := { dst := some 55, op := Op.move (Operand.tmp 5), type := 3, pos := "ref.go:106", after := #[], guard := none }) (v := ?_) rfl (by kernel_rfl) (by kernel_rfl) (by kernel_rfl) (fun _ _ _ h => h) (Or.inl ⟨by rfl, ?_⟩) hHeld ?_
                  rotate_left
                  · intro w hSw
                    try dsimp only at hSw
                    go_simp
                    try with_reducible rfl
                  try simp only [Act.put, List.setIfInBounds_toArray, List.set_cons_zero, List.set_cons_succ]
                  refine wpAnyH_take (i := 3) (oi := { dst := some 56, op := Op.binOp BinOp.add 3 (Operand.tmp 55) (Operand.const (Value.int IntKind.i64 1)) 3, type := 3, pos := "ref.go:106", after := #[{ on := 2, ground := Ground.data }], guard := none }) (v := ?_) rfl (by kernel_rfl) (by kernel_rfl) (by kernel_rfl) (fun _ _ _ h => h) (Or.inl ⟨by rfl, ?_⟩) hHeld ?_
                  rotate_left
                  · intro w hSw
                    try dsimp only at hSw
                    go_simp
                    try with_reducible rfl
                  try simp only [Act.put, List.setIfInBounds_toArray, List.set_cons_zero, List.set_cons_succ]
                  refine wpAnyH_take (i := 4) (oi := { dst := some 57, op := Op.slice 9 (Operand.tmp 54) (some (Operand.tmp 56)) none none, type := 9, pos := "ref.go:106", after := #[{ on := 1, ground := Ground.data }, { on := 3, ground := Ground.data }], guard := none }) (v := ?_) rfl (by kernel_rfl) (by kernel_rfl) (by kernel_rfl) (fun _ _ _ h => h) (Or.inl ⟨by rfl, ?_⟩) hHeld ?_
                  rotate_left
                  · intro w hSw
                    try dsimp only at hSw
                    go_simp
                    try with_reducible rfl
                  try simp only [Act.put, List.setIfInBounds_toArray, List.set_cons_zero, List.set_cons_succ]
                  refine wpAnyH_take (i := 5) (oi := { dst := some 58, op := Op.fieldAddr 62 (Operand.tmp 1) 1, type := 0, pos := "ref.go:106", after := #[], guard := none }) (v := ?_) rfl (by kernel_rfl) (by kernel_rfl) (by kernel_rfl) (fun _ _ _ h => h) (Or.inl ⟨by rfl, ?_⟩) hHeld ?_
                  rotate_left
                  · intro w hSw
                    try dsimp only at hSw
                    go_simp
                    try with_reducible rfl
                  try simp only [Act.put, List.setIfInBounds_toArray, List.set_cons_zero, List.set_cons_succ]
                  refine wpAnyH_take (i := 6) (oi := { dst := some 59, op := Op.load 4 (Operand.tmp 58), type := 4, pos := "ref.go:106", after := #[{ on := 5, ground := Ground.data }], guard := none }) (v := ?_) rfl (by kernel_rfl) (by kernel_rfl) (by kernel_rfl) (fun _ _ _ h => h) (Or.inl ⟨by rfl, ?_⟩) hHeld ?_
                  rotate_left
                  · intro w hSw
                    try dsimp only at hSw
                    go_simp
                    try with_reducible rfl
                  try simp only [Act.put, List.setIfInBounds_toArray, List.set_cons_zero, List.set_cons_succ]
                  refine wpAnyH_take (i := 7) (oi := { dst := some 60, op := Op.build 62 #[(0, Operand.tmp 57), (1, Operand.tmp 59)], type := 62, pos := "ref.go:106", after := #[{ on := 4, ground := Ground.data }, { on := 6, ground := Ground.data }], guard := none }) (v := ?_) rfl (by kernel_rfl) (by kernel_rfl) (by kernel_rfl) (fun _ _ _ h => h) (Or.inl ⟨by rfl, ?_⟩) hHeld ?_
                  rotate_left
                  · intro w hSw
                    try dsimp only at hSw
                    go_simp
                    try with_reducible rfl
                  try simp only [Act.put, List.setIfInBounds_toArray, List.set_cons_zero, List.set_cons_succ]
                  refine wpAnyH_take (i := 8) (oi := { dst := some 61, op := Op.fieldAddr 62 (Operand.tmp 1) 0, type := 0, pos := "ref.go:106", after := #[], guard := none }) (v := ?_) rfl (by kernel_rfl) (by kernel_rfl) (by kernel_rfl) (fun _ _ _ h => h) (Or.inl ⟨by rfl, ?_⟩) hHeld ?_
                  rotate_left
                  · intro w hSw
                    try dsimp only at hSw
                    go_simp
                    try with_reducible rfl
                  try simp only [Act.put, List.setIfInBounds_toArray, List.set_cons_zero, List.set_cons_succ]
                  refine wpAnyH_take (i := 9) (oi := { dst := some 62, op := Op.load 9 (Operand.tmp 61), type := 9, pos := "ref.go:106", after := #[{ on := 8, ground := Ground.data }], guard := none }) (v := ?_) rfl (by kernel_rfl) (by kernel_rfl) (by kernel_rfl) (fun _ _ _ h => h) (Or.inl ⟨by rfl, ?_⟩) hHeld ?_
                  rotate_left
                  · intro w hSw
                    try dsimp only at hSw
                    go_simp
                    try with_reducible rfl
                  try simp only [Act.put, List.setIfInBounds_toArray, List.set_cons_zero, List.set_cons_succ]
                  refine wpAnyH_take (i := 10) (oi := { dst := some 63, op := Op.move (Operand.tmp 5), type := 3, pos := "ref.go:106", after := #[], guard := none }) (v := ?_) rfl (by kernel_rfl) (by kernel_rfl) (by kernel_rfl) (fun _ _ _ h => h) (Or.inl ⟨by rfl, ?_⟩) hHeld ?_
                  rotate_left
                  · intro w hSw
                    try dsimp only at hSw
                    go_simp
                    try with_reducible rfl
                  try simp only [Act.put, List.setIfInBounds_toArray, List.set_cons_zero, List.set_cons_succ]
                  refine wpAnyH_take (i := 11) (oi := { dst := some 64, op := Op.slice 9 (Operand.tmp 62) (some (Operand.const (Value.int IntKind.i64 1))) (some (Operand.tmp 63)) none, type := 9, pos := "ref.go:106", after := #[{ on := 9, ground := Ground.data }, { on := 10, ground := Ground.data }], guard := none }) (v := ?_) rfl (by kernel_rfl) (by kernel_rfl) (by kernel_rfl) (fun _ _ _ h => h) (Or.inl ⟨by rfl, ?_⟩) hHeld ?_
                  rotate_left
                  · intro w hSw
                    try dsimp only at hSw
                    go_simp
                    try with_reducible rfl
                  try simp only [Act.put, List.setIfInBounds_toArray, List.set_cons_zero, List.set_cons_succ]
                  refine wpAnyH_ready (rs := [12]) (by kernel_rfl) (by simp) ?_
                  refine AllReadyH.cons (o := { dst := none, op := Op.store 62 (Operand.tmp 2) (Operand.tmp 60), type := 0, pos := "ref.go:106", after := #[{ on := 7, ground := Ground.data }, { on := 0, ground := Ground.phase }, { on := 1, ground := Ground.phase }, { on := 2, ground := Ground.phase }, { on := 3, ground := Ground.phase }, { on := 4, ground := Ground.phase }, { on := 5, ground := Ground.phase }, { on := 6, ground := Ground.phase }, { on := 7, ground := Ground.phase }, { on := 8, ground := Ground.textOnly Departure.lateStores }, { on := 9, ground := Ground.textOnly Departure.lateStores }, { on := 10, ground := Ground.textOnly Departure.lateStores }, { on := 11, ground := Ground.textOnly Departure.lateStoresUnsure }], guard := none }) rfl (fun K hK => ?_) (AllReadyH.nil)
                  rw [if_pos (by rfl)]
                  refine wp_store_g 62 (.tmp 2) (.tmp 60) rfl rfl g1 0 #[.string (s.extract (m + 1 + 1) s.size), .bool bad] #[.string (s.extract (m + 1 + 1) s.size), .bool bad] rfl rfl _ _ y0 (Nat.le_refl 2) (by kernel_rfl) (by kernel_rfl) (by kernel_rfl) ?_
                  refine hK.out _ _ (rd_mk (Blk.rowFar hHeld.2.2 (by omega) _)) (fun hHeld2 => ?_)
                  clear hK K hHeld; have hHeld := hHeld2; clear hHeld2
                  try simp only [Act.put, List.setIfInBounds_toArray, List.set_cons_zero, List.set_cons_succ]
                  refine wpAnyH_take (i := 13) (oi := { dst := some 3, op := Op.assign (Operand.tmp 64), type := 9, pos := "ref.go:106", after := #[{ on := 11, ground := Ground.data }, { on := 12, ground := Ground.chain }, { on := 0, ground := Ground.phase }, { on := 1, ground := Ground.phase }, { on := 2, ground := Ground.phase }, { on := 3, ground := Ground.phase }, { on := 4, ground := Ground.phase }, { on := 5, ground := Ground.phase }, { on := 6, ground := Ground.phase }, { on := 7, ground := Ground.phase }, { on := 8, ground := Ground.phase }, { on := 9, ground := Ground.phase }, { on := 10, ground := Ground.phase }, { on := 11, ground := Ground.phase }, { on := 12, ground := Ground.phase }], guard := none }) (v := ?_) rfl (by kernel_rfl) (by kernel_rfl) (by kernel_rfl) (fun _ _ _ h => h) (Or.inl ⟨by rfl, ?_⟩) hHeld ?_
                  rotate_left
                  · intro w hSw
                    try dsimp only at hSw
                    go_simp
                    try with_reducible rfl
                  try simp only [Act.put, List.setIfInBounds_toArray, List.set_cons_zero, List.set_cons_succ]
                  refine wpAnyH_done (by kernel_rfl) ?_ _
                  go_wp2_with fail
                  refine bodyPost_ret (results_rt (p := 2) (a := 3) rfl _ _ _ _ #[.string (s.extract (m + 1 + 1) s.size), .bool bad] (.string (s.extract 1 (m + 1))) rfl rfl (Blk.row y0 _) rfl) rfl ⟨congrArg Ending.returned HV.out, below_row hb0.drew (by omega) _⟩
                · have HT := Lib.hid (show ∀ b ∈ ((L s).drop 1).take (m + 1), b ≠ 62 from fun b hb' => by
                    rw [List.take_succ_eq_append_getElem hdl] at hb'
                    rcases List.mem_append.1 hb' with q | q
                    · exact HN.out b q
                    · rw [List.mem_singleton.1 q, hdg, hcd]; exact h62)
                  have f62 : ((s[m + 1].toNat : Int) == 62) = false := by rw [hcd, beq_eq_false_iff_ne]; exact fun e => h62 (UInt8.toNat_inj.1 (by have : (62 : UInt8).toNat = 62 := rfl; omega))
                  clear HN hdg hdl hcd hcI h62
                  have c0 : wr.cell? ⟨w.heap.size, 0, none⟩ = some (.string s) := x0.cell 0
                  go_wp2_with fail
                  go_roundw
                  case rel => exact ⟨m + 1, by go_num, by omega, HT.out, by trivial⟩
                  case measure => simp [intOf]; omega
              · have hltI : ¬ (m : Int) + 1 < (s.size : Int) := by omega
                have HC := cut_none 62 ((L s).drop 1) (fun b hb => HN.out b (by rw [List.take_of_length_le (by rw [List.length_drop, L_len]; omega)]; exact hb))
                have HV := Lib.hid (show Value.tuple #[.agg #[.string s, .bool true], .string ⟨#[]⟩] = .tuple #[rv (nameQ ⟨L s, bad⟩).2, .string (B (nameQ ⟨L s, bad⟩).1)] by rw [HQ.out, HC]; rw [if_neg Bool.false_ne_true]; try (dsimp only; rw [B_L]))
                clear HC HQ HN
                have c0 : wr.cell? ⟨w.heap.size, 0, none⟩ = some (.string s) := x0.cell 0
                go_wp2_with (refine wpList_store_seg rfl 62 _ _ rfl rfl g1 0 #[.string s, .bool true] #[.string s, .bool true] rfl rfl _ _ y0 (Nat.le_refl 2) (by kernel_rfl) (by kernel_rfl) (by kernel_rfl) ?_)
                refine bodyPost_ret (results_rt (p := 2) (a := 3) rfl _ _ _ _ #[.string s, .bool true] (.string ⟨#[]⟩) rfl rfl (Blk.row y0 _) rfl) rfl ⟨congrArg Ending.returned HV.out, below_row hb0 (by omega) _⟩
          · have f60 : ((s[0].toNat : Int) == 60) = false := by rw [beq_eq_false_iff_ne]; exact fun e => h60 (UInt8.toNat_inj.1 (by have : (60 : UInt8).toNat = 60 := rfl; omega))
            have HV := Lib.hid (show Value.tuple #[.agg #[.string s, .bool true], .string ⟨#[]⟩] = .tuple #[rv (nameQ ⟨L s, bad⟩).2, .string (B (nameQ ⟨L s, bad⟩).1)] by rw [nameq_lt hL HE.out, if_neg (fun e => h60 e.1)]; try (dsimp only; rw [B_L]))
            clear HE h60 hL
            have c0 : wr.cell? ⟨w.heap.size, 0, none⟩ = some (.string s) := x0.cell 0
            by_cases h1 : 1 < s.size
            · have h1I : (1 : Int) < (s.size : Int) := by omega
              clear h1
              go_wp2_with (refine (hq _).mono ?_; rintro e w1 ⟨rfl, hw⟩; rw [hw]; clear hw w1)
              go_loopw [5] (fun i w' => i = .int .i64 1 ∧ w' = wr) (fun _ _ => 0)
              case atStart => exact ⟨rfl, rfl⟩
              case round =>
                obtain ⟨rfl, rfl⟩ := hrel
                go_wp2_with (refine wpList_store_seg rfl 62 _ _ rfl rfl g1 0 #[.string s, .bool true] #[.string s, .bool true] rfl rfl _ _ y0 (Nat.le_refl 2) (by kernel_rfl) (by kernel_rfl) (by kernel_rfl) ?_)
                refine bodyPost_ret (results_rt (p := 2) (a := 3) rfl _ _ _ _ #[.string s, .bool true] (.string ⟨#[]⟩) rfl rfl (Blk.row y0 _) rfl) rfl ⟨congrArg Ending.returned HV.out, below_row hb0 (by omega) _⟩
            · have h1I : ¬ (1 : Int) < (s.size : Int) := by omega
              clear h1
              go_wp2_with (refine (hq _).mono ?_; rintro e w1 ⟨rfl, hw⟩; rw [hw]; clear hw w1)
              go_loopw [5] (fun i w' => i = .int .i64 1 ∧ w' = wr) (fun _ _ => 0)
              case atStart => exact ⟨rfl, rfl⟩
              case round =>
                obtain ⟨rfl, rfl⟩ := hrel
                go_wp2_with (refine wpList_store_seg rfl 62 _ _ rfl rfl g1 0 #[.string s, .bool true] #[.string s, .bool true] rfl rfl _ _ y0 (Nat.le_refl 2) (by kernel_rfl) (by kernel_rfl) (by kernel_rfl) ?_)
                refine bodyPost_ret (results_rt (p := 2) (a := 3) rfl _ _ _ _ #[.string s, .bool true] (.string ⟨#[]⟩) rfl rfl (Blk.row y0 _) rfl) rfl ⟨congrArg Ending.returned HV.out, below_row hb0 (by omega) _⟩
        · have HV0 : Value.tuple #[.agg #[.string (s.extract k s.size), .bool bad], .string (s.extract 0 k)] = .tuple #[rv (nameQ ⟨L s, bad⟩).2, .string (B (nameQ ⟨L s, bad⟩).1)] := by unfold nameQ; dsimp only; rw [if_neg (show ¬ ltN (L s) = 0 by rw [HE.out]; omega), HE.out]; dsimp only; rw [ext_drop, ext_take]
          have HV := Lib.hid HV0; clear HV0
          have gk : (0 : Int) < (k : Int) := by omega
          have gk2 : (k : Int) ≤ (s.size : Int) := by omega
          clear HE hk0
          have c0 : wr.cell? ⟨w.heap.size, 0, none⟩ = some (.string s) := x0.cell 0
          go_wp2_with fail
          refine (hq _).mono ?_; rintro e w1 ⟨rfl, hw⟩; rw [hw]; clear hw w1 hq
          go_upto_region 5 with fail
          clear c0
          refine wp_region_held_drew (S := fun w' => w'.cell? ⟨w.heap.size, 0, none⟩ = some (.string s) ∧ w'.cell? ⟨w.heap.size, 1, none⟩ = some (.bool bad) ∧ Blk w' w.heap.size 62 #[.string s, .bool bad]) (by kernel_rfl) (rd_mk (show Blk wr.drew w.heap.size 62 #[.string s, .bool bad] from x0)) (fun hHeld => ?_)
          refine wpAnyH_take (i := 0) (oi := { dst := some 24, op := Op.fieldAddr 62 (Operand.tmp 1) 0, type := 0, pos := "ref.go:102", after := #[], guard := none }) (v := ?_) rfl (by kernel_rfl) (by kernel_rfl) (by kernel_rfl) (fun _ _ _ h => h) (Or.inl ⟨by rfl, ?_⟩) hHeld ?_
          rotate_left
          · intro w hSw
            try dsimp only at hSw
            go_simp
            try with_reducible rfl
          try simp only [Act.put, List.setIfInBounds_toArray, List.set_cons_zero, List.set_cons_succ]
          refine wpAnyH_take (i := 1) (oi := { dst := some 25, op := Op.load 9 (Operand.tmp 24), type := 9, pos := "ref.go:102", after := #[{ on := 0, ground := Ground.data }], guard := none }) (v := ?_) rfl (by kernel_rfl) (by kernel_rfl) (by kernel_rfl) (fun _ _ _ h => h) (Or.inl ⟨by rfl, ?_⟩) hHeld ?_
          rotate_left
          · intro w hSw
            try dsimp only at hSw
            go_simp
            try with_reducible rfl
          try simp only [Act.put, List.setIfInBounds_toArray, List.set_cons_zero, List.set_cons_succ]
          refine wpAnyH_take (i := 2) (oi := { dst := some 26, op := Op.move (Operand.tmp 4), type := 3, pos := "ref.go:102", after := #[], guard := none }) (v := ?_) rfl (by kernel_rfl) (by kernel_rfl) (by kernel_rfl) (fun _ _ _ h => h) (Or.inl ⟨by rfl, ?_⟩) hHeld ?_
          rotate_left
          · intro w hSw
            try dsimp only at hSw
            go_simp
            try with_reducible rfl
          try simp only [Act.put, List.setIfInBounds_toArray, List.set_cons_zero, List.set_cons_succ]
          refine wpAnyH_take (i := 3) (oi := { dst := some 27, op := Op.slice 9 (Operand.tmp 25) (some (Operand.tmp 26)) none none, type := 9, pos := "ref.go:102", after := #[{ on := 1, ground := Ground.data }, { on := 2, ground := Ground.data }], guard := none }) (v := ?_) rfl (by kernel_rfl) (by kernel_rfl) (by kernel_rfl) (fun _ _ _ h => h) (Or.inl ⟨by rfl, ?_⟩) hHeld ?_
          rotate_left
          · intro w hSw
            try dsimp only at hSw
            go_simp
            try with_reducible rfl
          try simp only [Act.put, List.setIfInBounds_toArray, List.set_cons_zero, List.set_cons_succ]
          refine wpAnyH_take (i := 4) (oi := { dst := some 28, op := Op.fieldAddr 62 (Operand.tmp 1) 1, type := 0, pos := "ref.go:102", after := #[], guard := none }) (v := ?_) rfl (by kernel_rfl) (by kernel_rfl) (by kernel_rfl) (fun _ _ _ h => h) (Or.inl ⟨by rfl, ?_⟩) hHeld ?_
          rotate_left
          · intro w hSw
            try dsimp only at hSw
            go_simp
            try with_reducible rfl
          try simp only [Act.put, List.setIfInBounds_toArray, List.set_cons_zero, List.set_cons_succ]
          refine wpAnyH_take (i := 5) (oi := { dst := some 29, op := Op.load 4 (Operand.tmp 28), type := 4, pos := "ref.go:102", after := #[{ on := 4, ground := Ground.data }], guard := none }) (v := ?_) rfl (by kernel_rfl) (by kernel_rfl) (by kernel_rfl) (fun _ _ _ h => h) (Or.inl ⟨by rfl, ?_⟩) hHeld ?_
          rotate_left
          · intro w hSw
            try dsimp only at hSw
            go_simp
            try with_reducible rfl
          try simp only [Act.put, List.setIfInBounds_toArray, List.set_cons_zero, List.set_cons_succ]
          refine wpAnyH_take (i := 6) (oi := { dst := some 30, op := Op.build 62 #[(0, Operand.tmp 27), (1, Operand.tmp 29)], type := 62, pos := "ref.go:102", after := #[{ on := 3, ground := Ground.data }, { on := 5, ground := Ground.data }], guard := none }) (v := ?_) rfl (by kernel_rfl) (by kernel_rfl) (by kernel_rfl) (fun _ _ _ h => h) (Or.inl ⟨by rfl, ?_⟩) hHeld ?_
          rotate_left
          · intro w hSw
            try dsimp only at hSw
            go_simp
            try with_reducible rfl
          try simp only [Act.put, List.setIfInBounds_toArray, List.set_cons_zero, List.set_cons_succ]
          refine wpAnyH_take (i := 7) (oi := { dst := some 31, op := Op.fieldAddr 62 (Operand.tmp 1) 0, type := 0, pos := "ref.go:102", after := #[], guard := none }) (v := ?_) rfl (by kernel_rfl) (by kernel_rfl) (by kernel_rfl) (fun _ _ _ h => h) (Or.inl ⟨by rfl, ?_⟩) hHeld ?_
          rotate_left
          · intro w hSw
            try dsimp only at hSw
            go_simp
            try with_reducible rfl
          try simp only [Act.put, List.setIfInBounds_toArray, List.set_cons_zero, List.set_cons_succ]
          refine wpAnyH_take (i := 8) (oi := { dst := some 32, op := Op.load 9 (Operand.tmp 31), type := 9, pos := "ref.go:102", after := #[{ on := 7, ground := Ground.data }], guard := none }) (v := ?_) rfl (by kernel_rfl) (by kernel_rfl) (by kernel_rfl) (fun _ _ _ h => h) (Or.inl ⟨by rfl, ?_⟩) hHeld ?_
          rotate_left
          · intro w hSw
            try dsimp only at hSw
            go_simp
            try with_reducible rfl
          try simp only [Act.put, List.setIfInBounds_toArray, List.set_cons_zero, List.set_cons_succ]
          refine wpAnyH_take (i := 9) (oi := { dst := some 33, op := Op.move (Operand.tmp 4), type := 3, pos := "ref.go:102", after := #[], guard := none }) (v := ?_) rfl (by kernel_rfl) (by kernel_rfl) (by kernel_rfl) (fun _ _ _ h => h) (Or.inl ⟨by rfl, ?_⟩) hHeld ?_
          rotate_left
          · intro w hSw
            try dsimp only at hSw
            go_simp
            try with_reducible rfl
          try simp only [Act.put, List.setIfInBounds_toArray, List.set_cons_zero, List.set_cons_succ]
          refine wpAnyH_take (i := 10) (oi := { dst := some 34, op := Op.slice 9 (Operand.tmp 32) none (some (Operand.tmp 33)) none, type := 9, pos := "ref.go:102", after := #[{ on := 8, ground := Ground.data }, { on := 9, ground := Ground.data }], guard := none }) (v := ?_) rfl (by kernel_rfl) (by kernel_rfl) (by kernel_rfl) (fun _ _ _ h => h) (Or.inl ⟨by rfl, ?_⟩) hHeld ?_
          rotate_left
          · intro w hSw
            try dsimp only at hSw
            go_simp
            try with_reducible rfl
          try simp only [Act.put, List.setIfInBounds_toArray, List.set_cons_zero, List.set_cons_succ]
          refine wpAnyH_ready (rs := [11]) (by kernel_rfl) (by simp) ?_
          refine AllReadyH.cons (o := { dst := none, op := Op.store 62 (Operand.tmp 2) (Operand.tmp 30), type := 0, pos := "ref.go:102", after := #[{ on := 6, ground := Ground.data }, { on := 0, ground := Ground.phase }, { on := 1, ground := Ground.phase }, { on := 2, ground := Ground.phase }, { on := 3, ground := Ground.phase }, { on := 4, ground := Ground.phase }, { on := 5, ground := Ground.phase }, { on := 6, ground := Ground.phase }, { on := 7, ground := Ground.textOnly Departure.lateStores }, { on := 8, ground := Ground.textOnly Departure.lateStores }, { on := 9, ground := Ground.textOnly Departure.lateStores }, { on := 10, ground := Ground.textOnly Departure.lateStoresUnsure }], guard := none }) rfl (fun K hK => ?_) (AllReadyH.nil)
          rw [if_pos (by rfl)]
          refine wp_store_g 62 (.tmp 2) (.tmp 30) rfl rfl g1 0 #[.string (s.extract k s.size), .bool bad] #[.string (s.extract k s.size), .bool bad] rfl rfl _ _ y0 (Nat.le_refl 2) (by kernel_rfl) (by kernel_rfl) (by kernel_rfl) ?_
          refine hK.out _ _ (rd_mk (Blk.rowFar hHeld.2.2 (by omega) _)) (fun hHeld2 => ?_)
          clear hK K hHeld; have hHeld := hHeld2; clear hHeld2
          try simp only [Act.put, List.setIfInBounds_toArray, List.set_cons_zero, List.set_cons_succ]
          refine wpAnyH_take (i := 12) (oi := { dst := some 3, op := Op.assign (Operand.tmp 34), type := 9, pos := "ref.go:102", after := #[{ on := 10, ground := Ground.data }, { on := 11, ground := Ground.chain }, { on := 0, ground := Ground.phase }, { on := 1, ground := Ground.phase }, { on := 2, ground := Ground.phase }, { on := 3, ground := Ground.phase }, { on := 4, ground := Ground.phase }, { on := 5, ground := Ground.phase }, { on := 6, ground := Ground.phase }, { on := 7, ground := Ground.phase }, { on := 8, ground := Ground.phase }, { on := 9, ground := Ground.phase }, { on := 10, ground := Ground.phase }, { on := 11, ground := Ground.phase }], guard := none }) (v := ?_) rfl (by kernel_rfl) (by kernel_rfl) (by kernel_rfl) (fun _ _ _ h => h) (Or.inl ⟨by rfl, ?_⟩) hHeld ?_
          rotate_left
          · intro w hSw
            try dsimp only at hSw
            go_simp
            try with_reducible rfl
          try simp only [Act.put, List.setIfInBounds_toArray, List.set_cons_zero, List.set_cons_succ]
          refine wpAnyH_done (by kernel_rfl) ?_ _
          go_wp2_with fail
          refine bodyPost_ret (results_rt (p := 2) (a := 3) rfl _ _ _ _ #[.string (s.extract k s.size), .bool bad] (.string (s.extract 0 k)) rfl rfl (Blk.row y0 _) rfl) rfl ⟨congrArg Ending.returned HV.out, below_row hb0.drew (by omega) _⟩
    · obtain rfl : k = s.size := by omega
      have hlt' : ¬ (s.size : Int) < (s.size : Int) := by omega
      have HE := Lib.hid (show ltN (L s) = s.size from ltN_at _ _ HA.out (fun h => by rw [L_len] at h; omega) (by rw [L_len]; exact Nat.le_refl _))
      clear HA
      have c0 : wr.cell? ⟨w.heap.size, 0, none⟩ = some (.string s) := x0.cell 0
      by_cases hk0 : s.size = 0
      · obtain rfl : s = ⟨#[]⟩ := by apply ByteArray.ext; exact Array.size_eq_zero_iff.1 hk0
        clear hk0 HE
        have HV := Lib.hid (show Value.tuple #[.agg #[.string ⟨#[]⟩, .bool true], .string ⟨#[]⟩] = .tuple #[rv (nameQ ⟨L ⟨#[]⟩, bad⟩).2, .string (B (nameQ ⟨L ⟨#[]⟩, bad⟩).1)] by rfl)
        go_wp2_with fail
        go_loopw [5] (fun i w' => i = .int .i64 1 ∧ w' = wr) (fun _ _ => 0)
        case atStart => exact ⟨rfl, rfl⟩
        case round =>
          obtain ⟨rfl, rfl⟩ := hrel
          go_wp2_with (refine wpList_store_seg rfl 62 _ _ rfl rfl g1 0 #[.string ⟨#[]⟩, .bool true] #[.string ⟨#[]⟩, .bool true] rfl rfl _ _ y0 (Nat.le_refl 2) (by kernel_rfl) (by kernel_rfl) (by kernel_rfl) ?_)
          refine bodyPost_ret (results_rt (p := 2) (a := 3) rfl _ _ _ _ #[.string ⟨#[]⟩, .bool true] (.string ⟨#[]⟩) rfl rfl (Blk.row y0 _) rfl) rfl ⟨congrArg Ending.returned HV.out, below_row hb0 (by omega) _⟩
      · have HV0 : Value.tuple #[.agg #[.string (s.extract s.size s.size), .bool bad], .string (s.extract 0 s.size)] = .tuple #[rv (nameQ ⟨L s, bad⟩).2, .string (B (nameQ ⟨L s, bad⟩).1)] := by unfold nameQ; dsimp only; rw [if_neg (show ¬ ltN (L s) = 0 by rw [HE.out]; omega), HE.out]; dsimp only; rw [ext_drop, ext_take]
        rw [ext_all1, ext_all2] at HV0
        have HV := Lib.hid HV0; clear HV0
        have gk : (0 : Int) < (s.size : Int) := by omega
        have gk2 : (s.size : Int) ≤ (s.size : Int) := by omega
        clear HE hk0
        have c0 : wr.cell? ⟨w.heap.size, 0, none⟩ = some (.string s) := x0.cell 0
        go_upto_region 5 with fail
        clear c0
        refine wp_region_held_drew (S := fun w' => w'.cell? ⟨w.heap.size, 0, none⟩ = some (.string s) ∧ w'.cell? ⟨w.heap.size, 1, none⟩ = some (.bool bad) ∧ Blk w' w.heap.size 62 #[.string s, .bool bad]) (by kernel_rfl) (rd_mk (show Blk wr.drew w.heap.size 62 #[.string s, .bool bad] from x0)) (fun hHeld => ?_)
        refine wpAnyH_take (i := 0) (oi := { dst := some 24, op := Op.fieldAddr 62 (Operand.tmp 1) 0, type := 0, pos := "ref.go:102", after := #[], guard := none }) (v := ?_) rfl (by kernel_rfl) (by kernel_rfl) (by kernel_rfl) (fun _ _ _ h => h) (Or.inl ⟨by rfl, ?_⟩) hHeld ?_
        rotate_left
        · intro w hSw
          try dsimp only at hSw
          go_simp
          try with_reducible rfl
        try simp only [Act.put, List.setIfInBounds_toArray, List.set_cons_zero, List.set_cons_succ]
        refine wpAnyH_take (i := 1) (oi := { dst := some 25, op := Op.load 9 (Operand.tmp 24), type := 9, pos := "ref.go:102", after := #[{ on := 0, ground := Ground.data }], guard := none }) (v := ?_) rfl (by kernel_rfl) (by kernel_rfl) (by kernel_rfl) (fun _ _ _ h => h) (Or.inl ⟨by rfl, ?_⟩) hHeld ?_
        rotate_left
        · intro w hSw
          try dsimp only at hSw
          go_simp
          try with_reducible rfl
        try simp only [Act.put, List.setIfInBounds_toArray, List.set_cons_zero, List.set_cons_succ]
        refine wpAnyH_take (i := 2) (oi := { dst := some 26, op := Op.move (Operand.tmp 4), type := 3, pos := "ref.go:102", after := #[], guard := none }) (v := ?_) rfl (by kernel_rfl) (by kernel_rfl) (by kernel_rfl) (fun _ _ _ h => h) (Or.inl ⟨by rfl, ?_⟩) hHeld ?_
        rotate_left
        · intro w hSw
          try dsimp only at hSw
          go_simp
          try with_reducible rfl
        try simp only [Act.put, List.setIfInBounds_toArray, List.set_cons_zero, List.set_cons_succ]
        refine wpAnyH_take (i := 3) (oi := { dst := some 27, op := Op.slice 9 (Operand.tmp 25) (some (Operand.tmp 26)) none none, type := 9, pos := "ref.go:102", after := #[{ on := 1, ground := Ground.data }, { on := 2, ground := Ground.data }], guard := none }) (v := ?_) rfl (by kernel_rfl) (by kernel_rfl) (by kernel_rfl) (fun _ _ _ h => h) (Or.inl ⟨by rfl, ?_⟩) hHeld ?_
        rotate_left
        · intro w hSw
          try dsimp only at hSw
          go_simp
          try with_reducible rfl
        try simp only [Act.put, List.setIfInBounds_toArray, List.set_cons_zero, List.set_cons_succ]
        refine wpAnyH_take (i := 4) (oi := { dst := some 28, op := Op.fieldAddr 62 (Operand.tmp 1) 1, type := 0, pos := "ref.go:102", after := #[], guard := none }) (v := ?_) rfl (by kernel_rfl) (by kernel_rfl) (by kernel_rfl) (fun _ _ _ h => h) (Or.inl ⟨by rfl, ?_⟩) hHeld ?_
        rotate_left
        · intro w hSw
          try dsimp only at hSw
          go_simp
          try with_reducible rfl
        try simp only [Act.put, List.setIfInBounds_toArray, List.set_cons_zero, List.set_cons_succ]
        refine wpAnyH_take (i := 5) (oi := { dst := some 29, op := Op.load 4 (Operand.tmp 28), type := 4, pos := "ref.go:102", after := #[{ on := 4, ground := Ground.data }], guard := none }) (v := ?_) rfl (by kernel_rfl) (by kernel_rfl) (by kernel_rfl) (fun _ _ _ h => h) (Or.inl ⟨by rfl, ?_⟩) hHeld ?_
        rotate_left
        · intro w hSw
          try dsimp only at hSw
          go_simp
          try with_reducible rfl
        try simp only [Act.put, List.setIfInBounds_toArray, List.set_cons_zero, List.set_cons_succ]
        refine wpAnyH_take (i := 6) (oi := { dst := some 30, op := Op.build 62 #[(0, Operand.tmp 27), (1, Operand.tmp 29)], type := 62, pos := "ref.go:102", after := #[{ on := 3, ground := Ground.data }, { on := 5, ground := Ground.data }], guard := none }) (v := ?_) rfl (by kernel_rfl) (by kernel_rfl) (by kernel_rfl) (fun _ _ _ h => h) (Or.inl ⟨by rfl, ?_⟩) hHeld ?_
        rotate_left
        · intro w hSw
          try dsimp only at hSw
          go_simp
          try with_reducible rfl
        try simp only [Act.put, List.setIfInBounds_toArray, List.set_cons_zero, List.set_cons_succ]
        refine wpAnyH_take (i := 7) (oi := { dst := some 31, op := Op.fieldAddr 62 (Operand.tmp 1) 0, type := 0, pos := "ref.go:102", after := #[], guard := none }) (v := ?_) rfl (by kernel_rfl) (by kernel_rfl) (by kernel_rfl) (fun _ _ _ h => h) (Or.inl ⟨by rfl, ?_⟩) hHeld ?_
        rotate_left
        · intro w hSw
          try dsimp only at hSw
          go_simp
          try with_reducible rfl
        try simp only [Act.put, List.setIfInBounds_toArray, List.set_cons_zero, List.set_cons_succ]
        refine wpAnyH_take (i := 8) (oi := { dst := some 32, op := Op.load 9 (Operand.tmp 31), type := 9, pos := "ref.go:102", after := #[{ on := 7, ground := Ground.data }], guard := none }) (v := ?_) rfl (by kernel_rfl) (by kernel_rfl) (by kernel_rfl) (fun _ _ _ h => h) (Or.inl ⟨by rfl, ?_⟩) hHeld ?_
        rotate_left
        · intro w hSw
          try dsimp only at hSw
          go_simp
          try with_reducible rfl
        try simp only [Act.put, List.setIfInBounds_toArray, List.set_cons_zero, List.set_cons_succ]
        refine wpAnyH_take (i := 9) (oi := { dst := some 33, op := Op.move (Operand.tmp 4), type := 3, pos := "ref.go:102", after := #[], guard := none }) (v := ?_) rfl (by kernel_rfl) (by kernel_rfl) (by kernel_rfl) (fun _ _ _ h => h) (Or.inl ⟨by rfl, ?_⟩) hHeld ?_
        rotate_left
        · intro w hSw
          try dsimp only at hSw
          go_simp
          try with_reducible rfl
        try simp only [Act.put, List.setIfInBounds_toArray, List.set_cons_zero, List.set_cons_succ]
        refine wpAnyH_take (i := 10) (oi := { dst := some 34, op := Op.slice 9 (Operand.tmp 32) none (some (Operand.tmp 33)) none, type := 9, pos := "ref.go:102", after := #[{ on := 8, ground := Ground.data }, { on := 9, ground := Ground.data }], guard := none }) (v := ?_) rfl (by kernel_rfl) (by kernel_rfl) (by kernel_rfl) (fun _ _ _ h => h) (Or.inl ⟨by rfl, ?_⟩) hHeld ?_
        rotate_left
        · intro w hSw
          try dsimp only at hSw
          go_simp
          try with_reducible rfl
        try simp only [Act.put, List.setIfInBounds_toArray, List.set_cons_zero, List.set_cons_succ]
        refine wpAnyH_ready (rs := [11]) (by kernel_rfl) (by simp) ?_
        refine AllReadyH.cons (o := { dst := none, op := Op.store 62 (Operand.tmp 2) (Operand.tmp 30), type := 0, pos := "ref.go:102", after := #[{ on := 6, ground := Ground.data }, { on := 0, ground := Ground.phase }, { on := 1, ground := Ground.phase }, { on := 2, ground := Ground.phase }, { on := 3, ground := Ground.phase }, { on := 4, ground := Ground.phase }, { on := 5, ground := Ground.phase }, { on := 6, ground := Ground.phase }, { on := 7, ground := Ground.textOnly Departure.lateStores }, { on := 8, ground := Ground.textOnly Departure.lateStores }, { on := 9, ground := Ground.textOnly Departure.lateStores }, { on := 10, ground := Ground.textOnly Departure.lateStoresUnsure }], guard := none }) rfl (fun K hK => ?_) (AllReadyH.nil)
        rw [if_pos (by rfl)]
        refine wp_store_g 62 (.tmp 2) (.tmp 30) rfl rfl g1 0 #[.string ByteArray.empty, .bool bad] #[.string ByteArray.empty, .bool bad] rfl rfl _ _ y0 (Nat.le_refl 2) (by kernel_rfl) (by kernel_rfl) (by kernel_rfl) ?_
        refine hK.out _ _ (rd_mk (Blk.rowFar hHeld.2.2 (by omega) _)) (fun hHeld2 => ?_)
        clear hK K hHeld; have hHeld := hHeld2; clear hHeld2
        try simp only [Act.put, List.setIfInBounds_toArray, List.set_cons_zero, List.set_cons_succ]
        refine wpAnyH_take (i := 12) (oi := { dst := some 3, op := Op.assign (Operand.tmp 34), type := 9, pos := "ref.go:102", after := #[{ on := 10, ground := Ground.data }, { on := 11, ground := Ground.chain }, { on := 0, ground := Ground.phase }, { on := 1, ground := Ground.phase }, { on := 2, ground := Ground.phase }, { on := 3, ground := Ground.phase }, { on := 4, ground := Ground.phase }, { on := 5, ground := Ground.phase }, { on := 6, ground := Ground.phase }, { on := 7, ground := Ground.phase }, { on := 8, ground := Ground.phase }, { on := 9, ground := Ground.phase }, { on := 10, ground := Ground.phase }, { on := 11, ground := Ground.phase }], guard := none }) (v := ?_) rfl (by kernel_rfl) (by kernel_rfl) (by kernel_rfl) (fun _ _ _ h => h) (Or.inl ⟨by rfl, ?_⟩) hHeld ?_
        rotate_left
        · intro w hSw
          try dsimp only at hSw
          go_simp
          try with_reducible rfl
        try simp only [Act.put, List.setIfInBounds_toArray, List.set_cons_zero, List.set_cons_succ]
        refine wpAnyH_done (by kernel_rfl) ?_ _
        go_wp2_with fail
        refine bodyPost_ret (results_rt (p := 2) (a := 3) rfl _ _ _ _ #[.string ByteArray.empty, .bool bad] (.string s) rfl rfl (Blk.row y0 _) rfl) rfl ⟨congrArg Ending.returned HV.out, below_row hb0.drew (by omega) _⟩
theorem rnme_any (x : Rs) (w : World) (hx : x.s.length ≤ 100000) : Calls Tryd.prog 33 #[rv x] w fun e w' => e = .returned (.tuple #[rv (nameQ x).2, .string (B (nameQ x).1)]) ∧ Below w.heap.size w w' :=
  rnme_s (B x.s) x.bad w (by rw [B_len]; exact hx)
end Go.Proofs.YtgdgkgeoigljcaaDoor.Fo
