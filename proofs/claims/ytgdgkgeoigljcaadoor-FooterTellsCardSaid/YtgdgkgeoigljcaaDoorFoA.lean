/-
  footer.Parse, walked.
-/
import Derived.Test.YtgdgkgeoigljcaaDoorFo9
import Derived.Deep.RegionHeld3
import Derived.Test.YtgdgkgeoigljcaaDoorLdB
namespace Go.Proofs.YtgdgkgeoigljcaaDoor.Fo
open Go.ChangeShapes Go.WideShapes Go.ChangeAt Go.RowKit Go.Shelf
open Go.Proofs.YtgdgkgeoigljcaaDoor
open Go.Proofs.YtgdgkgeoigljcaaDoor.Wd
open Go.Proofs.YtgdgkgeoigljcaaDoor.Rec
open Go.Proofs.YtgdgkgeoigljcaaDoor.Tb (Rc)
open Go.Proofs.YtgdgkgeoigljcaaDoor.Civ (Tab)
open Go.Lib (byteCells)
set_option linter.unusedVariables false
set_option linter.unusedSimpArgs false
open Go.Proofs.YtgdgkgeoigljcaaDoor.Ld
theorem wp_store_g {P : Program} {o : Oper} {a : Act} {w : World} {K : Act → World → Prop} {Q : Exit → Act → World → Prop} (ty : TypeId) (x y : Operand) (ho : o.op = .store ty x y) (hd : o.dst = none)
    (g k : Nat) (cells new : Array Value) (hx : a.eval x = .pointer (some ⟨g, k, none⟩)) (hy : a.eval y = .agg cells) (t : TypeId) (old : Array Value) (hg : Blk w g t old)
    (hl : k + cells.size ≤ old.size) (hi : (P.info? ty).map (·.size) = some cells.size) (h1 : cells.all (·.oneCell') = true) (hn : (old.toList.take k ++ cells.toList ++ old.toList.drop (k + cells.size)).toArray = new)
    (h : K (a.put o.dst undef) (w.setRow g new)) : o.wp P a w K Q := by
  have := run_storeCells_at (P := P) g k t cells.toList 0 old w hg (by simpa using hl) (fun v hv => (Array.all_eq_true_iff_forall_mem.1 h1) v (by simpa using hv))
  simp only [Nat.add_zero, Array.length_toList] at this
  rw [hn] at this
  have hs : (storeVar ty ⟨g, k, none⟩ (.agg cells)).run P w = .ok () (w.setRow g new) := by
    cases hq : P.info? ty with
    | none => simp [hq] at hi
    | some i =>
      have hsz : cells.size = i.size := by simp [hq] at hi; omega
      simp [storeVar, sizeOf, typeInfo, hq, Value.cells, hsz, this]
  unfold Oper.wp execOp
  simp only [ho, hx, hy, Instr.storeAt, Instr.sureAddr, Sem.run_bind, Sem.run_pure, Result.andThen_ok, hs]
  exact h
theorem results_p4 {fn : Func} {p a b c : Tmp} (h : fn.results = #[.cell p 26, .tmp a, .tmp b, .tmp c]) (tmps : Array Value) (w : World) (g : Nat) (t : TypeId) (cs : Array Value) (va vb vc : Value)
    (hp : tmps.getD p undef = .pointer (some ⟨g, 0, none⟩)) (ha : tmps.getD a undef = va) (hb : tmps.getD b undef = vb) (hc : tmps.getD c undef = vc) (hg : w.heap[g]? = some (.cells cs t (0, 0))) (hs : cs.size = 19) :
    (results fn tmps).run Tryd.prog w = .ok (.tuple #[.agg cs, va, vb, vc]) w := by
  have hp' : tmps[p]?.getD undef = .pointer (some ⟨g, 0, none⟩) := by simpa using hp
  have ha' : tmps[a]?.getD undef = va := by simpa using ha
  have hb' : tmps[b]?.getD undef = vb := by simpa using hb
  have hc' : tmps[c]?.getD undef = vc := by simpa using hc
  have hi : (Tryd.prog.info? 26).map (·.size) = some cs.size := by rw [hs]; kernel_rfl
  have hl := run_loadVar_row w g t 26 cs (0, 0) _ hg Tryd.underlying26 rfl hi
  simp [results, h, hp', ha', hb', hc', asAddr, hl]
theorem str_ne {a b : ByteArray} (h : a ≠ b) : (a.toList == b.toList) = false := by
  rw [beq_eq_false_iff_ne, Lib.toList_data, Lib.toList_data]; exact fun e => h (by rw [← B_L a, ← B_L b]; exact congrArg B e)
theorem parV_no {s : List UInt8} {p : Pr} (h : parW s = p) (hn : ¬ p.ok s) : parV s = .tuple #[.agg #[.int .i32 0, .int .i32 0, .int .i32 0, .int .u16 0, .int .u16 0, .int .u16 0, .int .u16 0, .int .u16 0, .int .u16 0, .int .u16 0, .int .u16 0, .int .u16 0, .int .u16 0, .int .u16 0, .int .u16 0, .int .u16 0, .int .u16 0, .int .u16 0, .int .u16 0], .string ⟨#[]⟩, .string ⟨#[]⟩, .int .i64 4] := by unfold parV; rw [h, if_neg hn]; rfl
theorem parV_yes {s : List UInt8} {p : Pr} (h : parW s = p) (hn : p.ok s) : parV s = .tuple #[.agg p.r.A, .string (B p.n), .string (B p.d), .int .i64 0] := by unfold parV; rw [h, if_pos hn]
theorem ldS_sem (v : Value) : Instr.loadAt 24 v = ldSem 24 v := rfl
attribute [local go_sem ↓] ldS_sem
attribute [local go_sem] ldSem_run
theorem s15_mk {w : World} {gs : Nat} {x : St} (h : Blk w gs 24 (sA x)) : Blk w gs 24 (sA x) ∧ ldT 24 (.pointer (some ⟨gs, 0, none⟩)) w = some (sA x) := ⟨h, ldT_of (ld_seg h Tryd.underlying24 rfl (by kernel_rfl) (by kernel_rfl))⟩
theorem s15_on {w w' : World} {g gs : Nat} {x : St} (h : Blk w gs 24 (sA x)) (hn : gs ≠ g) (k : KB g w w') : Blk w' gs 24 (sA x) ∧ ldT 24 (.pointer (some ⟨gs, 0, none⟩)) w' = some (sA x) := s15_mk (k.blk h hn)
set_option maxRecDepth 40000 in
set_option maxHeartbeats 12800000 in
theorem par_any (s0 : ByteArray) (w : World) (hT : Tab w) (hQ : Lib.TabIs Tryd.prog w "internal/strconv.uint64pow10" .u64 Lib.pow10Tab) (hs : s0.size ≤ 1000) :
    Calls Tryd.prog 8 #[.string s0] w fun e w' => e = .returned (parV (L s0)) ∧ Below w.heap.size w w' := by
  obtain ⟨g, hg⟩ : ∃ g, g = w.heap.size + 1 := ⟨_, rfl⟩
  obtain ⟨x0, hx0⟩ : ∃ x0 : Rs, x0 = ⟨L s0, false⟩ := ⟨_, rfl⟩
  have len0 : x0.s.length ≤ 100000 := by subst hx0; show (L s0).length ≤ _; rw [L_len]; omega
  have y := (Blk.new w 26 z19).alloc (.cells #[.string s0, .bool false] 54)
  have h0 : Rd ((w.alloc (.cells z19 26)).alloc (.cells #[.string s0, .bool false] 54)) g x0 := by
    have := blk_at' (w.alloc (.cells z19 26)) 54 #[.string s0, .bool false] (sz1 w (.cells z19 26) rfl)
    subst hg hx0; unfold Rd; rw [show B (L s0) = s0 from B_L s0]; exact this
  have kk0 : KB g w ((w.alloc (.cells z19 26)).alloc (.cells #[.string s0, .bool false] 54)) := KB.of (((Below.refl _ w).alloc (Nat.le_refl _) _).alloc (by rw [sz1 _ _ rfl]; exact Nat.le_succ _) _)
  unfold z19 at h0 kk0 y
  go_enter Tryd.func8, Tryd.ntmps8
  go_upto_region 2 with fail
  rw [← hg]
  have hgl : w.heap.size < g := by omega
  have HX := Lib.hid hx0
  clear hg hx0
  obtain ⟨a1, x1, E1⟩ : ∃ v y, nameR x0 = (v, y) := ⟨_, _, rfl⟩
  have hr := rname_any g x0 _ h0 len0
  rw [E1] at hr
  have len1 := namer_len x0; have vl1 := namer_le x0; rw [E1] at len1 vl1; replace len1 : x1.s.length ≤ 100000 := Nat.le_trans len1 len0
  have HE1 := Lib.hid E1; clear E1
  go_wp2_with fail
  refine hr.mono ?_; rintro e W1 ⟨rfl, h1, kq⟩
  have kk1 := kk0.trans kq
  replace y := kq.blk y (by omega)
  clear hr kq kk0 h0 len0
  obtain ⟨o2, x2, E2⟩ : ∃ v y, offR x1 = (v, y) := ⟨_, _, rfl⟩
  have hr := roff_any g x1 _ h1 len1
  rw [E2] at hr
  have len2 := offR_len x1; have ob2 := off_bd x1; rw [E2] at len2 ob2; replace len2 : x2.s.length ≤ 100000 := Nat.le_trans len2 len1; replace ob2 : -400000 ≤ o2 ∧ o2 ≤ 400000 := ob2
  have HE2 := Lib.hid E2; clear E2
  go_wp2_with fail
  refine hr.mono ?_; rintro e W2 ⟨rfl, h2, kq⟩
  have kk2 := kk1.trans kq
  replace y := kq.blk y (by omega)
  clear hr kq kk1 h1 len1
  have z := Blk.new W2 26 z19
  have y2 := y.alloc (.cells z19 26)
  have h2a := h2.alloc (.cells z19 26)
  have kk2a : KB g w (W2.alloc (.cells z19 26)) := kk2.trans (KB.of ((Below.refl _ W2).alloc (Nat.le_refl _) _))
  have c2 : (W2.alloc (.cells z19 26)).cell? ⟨g, 0, none⟩ = some (.string (B x2.s)) := h2a.cell 0
  have f2 : (W2.alloc (.cells z19 26)).frozen? ⟨g, 0, none⟩ = false := h2a.frozen 0
  have hg2 : g < W2.heap.size := h2.lt
  have hw2 : w.heap.size < W2.heap.size := y.lt
  clear h2 y kk2
  unfold z19 at z y2 h2a kk2a c2 f2
  go_upto_if 27 with fail
  clear c2 f2
  generalize W2.heap.size = gz at *
  have len2 := len2
  generalize W2.alloc _ = W2 at *
  go_cut [8, 11] (fun d e wx => ∃ p : Pr, parW (L s0) = p ∧ d = .string (B p.d) ∧ e = .int .i64 p.e ∧ p.n = a1 ∧ Rd wx g p.x ∧ Blk wx gz 26 p.r.A ∧ Blk wx w.heap.size 26 #[.int .i32 0, .int .i32 0, .int .i32 0, .int .u16 0, .int .u16 0, .int .u16 0, .int .u16 0, .int .u16 0, .int .u16 0, .int .u16 0, .int .u16 0, .int .u16 0, .int .u16 0, .int .u16 0, .int .u16 0, .int .u16 0, .int .u16 0, .int .u16 0, .int .u16 0] ∧ KB g w wx ∧ p.x.s.length ≤ 100000)
  case first =>
    cases hx : x2.s.isEmpty with
    | true =>
      have HNE := Lib.hid (List.isEmpty_iff.1 hx); clear hx
      have hpl := plain_any o2 W2; rw [plV_R] at hpl
      obtain ⟨r, hR⟩ : ∃ r, plR o2 = r := ⟨_, rfl⟩
      obtain ⟨en, hN⟩ : ∃ r, plE o2 = r := ⟨_, rfl⟩
      rw [hR, hN] at hpl
      have HR := Lib.hid hR; have HN := Lib.hid hN; clear hR hN
      go_wp2_with fail
      refine hpl.mono ?_; rintro e W8 ⟨rfl, hbl⟩
      have kq : KB g W2 W8 := KB.of hbl
      have kk8 := kk2a.trans kq
      have h8 : Rd W8 g x2 := h2a.below hbl h2a.lt
      have y8 := kq.blk y2 (by omega)
      have z8 := kq.blk z (by omega)
      clear hpl kk2a h2a y2 z kq hbl
      go_wp2_with (refine wpList_store_seg rfl 26 _ _ rfl rfl gz 0 r.A r.A rfl rfl _ _ z8 (Nat.le_refl 19) (by kernel_rfl) (by kernel_rfl) (by kernel_rfl) ?_)
      go_meet
      refine ⟨⟨r, en, a1, [], x2⟩, ?_, rfl, rfl, rfl, Blk.rowFar h8 (by omega) _, Blk.row z8 _, Blk.rowFar y8 (by omega) _, kk8.rowN (by omega) _, len2⟩
      unfold parW; rw [show (⟨L s0, false⟩ : Rs) = x0 from HX.out.symm]; simp only [HE1.out, HE2.out]; rw [if_pos HNE.out]; simp only [HR.out, HN.out]
    | false =>
      have HNE := Lib.hid (show x2.s ≠ [] from fun e => by rw [e] at hx; exact absurd hx (by decide)); clear hx
      have wq : IntKind.i64.wrap (o2 + 3600) = o2 + 3600 := by simp [IntKind.wrap, IntKind.bits, IntKind.signed]; omega
      have h2 := h2a; have kk2 := kk2a; clear h2a kk2a
      obtain ⟨a3, x3, E3⟩ : ∃ v y, nameR x2 = (v, y) := ⟨_, _, rfl⟩
      have hr := rname_any g x2 _ h2 len2
      rw [E3] at hr
      have len3 := namer_len x2; have vl3 := namer_le x2; rw [E3] at len3 vl3; replace len3 : x3.s.length ≤ 100000 := Nat.le_trans len3 len2
      have HE3 := Lib.hid E3; clear E3
      go_wp2_with fail
      refine hr.mono ?_; rintro e W3 ⟨rfl, h3, kq⟩
      have kk3 := kk2.trans kq
      replace y2 := kq.blk y2 (by omega)
      replace z := kq.blk z (by omega)
      clear hr kq kk2 h2 len2
      obtain ⟨b4, x4, E4⟩ : ∃ b y, mayR 44 x3 = (b, y) := ⟨_, _, rfl⟩
      have hr := may_any g 44 x3 _ h3
      rw [E4] at hr
      have len4 := may_len 44 x3; rw [E4] at len4; replace len4 : x4.s.length ≤ 100000 := Nat.le_trans len4 len3
      have HE4 := Lib.hid E4; clear E4
      go_wp2_with fail
      refine hr.mono ?_; rintro e W4 ⟨rfl, h4, kq⟩
      have kk4 := kk3.trans kq
      replace y2 := kq.blk y2 (by omega)
      replace z := kq.blk z (by omega)
      clear hr kq kk3 h3 len3
      cases b4 with
      | true =>
        have HD0 := Lib.hid (show dstR o2 x3 = (o2 + 3600, x4) by unfold dstR; rw [HE4.out]; rfl)
        have hbb : -500000 ≤ o2 + 3600 ∧ o2 + 3600 ≤ 500000 := by omega
        generalize o2 + 3600 = b at *
        have HD := HD0
        obtain ⟨s5, x5, E5⟩ : ∃ v y, stR x4 = (v, y) := ⟨_, _, rfl⟩
        have hr := rst_any g x4 _ h4 len4
        rw [E5] at hr
        have len5 := stR_len x4; have sb5 := st_bd x4; rw [E5] at len5 sb5; replace len5 : x5.s.length ≤ 100000 := Nat.le_trans len5 len4; replace sb5 : s5.Bd := sb5
        have HE5 := Lib.hid E5; clear E5
        go_wp2_with fail
        refine hr.mono ?_; rintro e W5 ⟨rfl, h5, kq⟩
        have kk5 := kk4.trans kq
        replace y2 := kq.blk y2 (by omega)
        replace z := kq.blk z (by omega)
        clear hr kq kk4 h4 len4
        go_upto_region 14 with (refine wpList_store_new rfl 24 _ _ rfl rfl W5.heap.size (sA s5) rfl rfl _ #[.int .u16 0, .int .u16 0, .int .u16 0, .int .u16 0, .int .u16 0, .int .u16 0, .int .u16 0, .int .u16 0] W5 rfl rfl rfl (by kernel_rfl) (by kernel_rfl) ?_)
        have v := Blk.new W5 24 (sA s5)
        have hgs : g < W5.heap.size := h5.lt; have hgz : gz < W5.heap.size := z.lt
        replace h5 := h5.alloc (.cells (sA s5) 24); replace y2 := y2.alloc (.cells (sA s5) 24); replace z := z.alloc (.cells (sA s5) 24)
        replace kk5 : KB g w (W5.alloc (.cells (sA s5) 24)) := kk5.trans (KB.of ((Below.refl _ _).alloc (Nat.le_refl _) _))
        generalize W5.heap.size = gs at *
        obtain ⟨x6, E6⟩ : ∃ y, mustR 44 x5 = y := ⟨_, rfl⟩
        have hr := must_any g 44 x5 _ h5
        rw [E6] at hr
        have len6 := must_len 44 x5; rw [E6] at len6; replace len6 : x6.s.length ≤ 100000 := Nat.le_trans len6 len5
        have HE6 := Lib.hid E6; clear E6
        go_wp2_with fail
        refine hr.mono ?_; rintro e W6 ⟨rfl, h6, kq⟩
        have kk6 := kk5.trans kq
        replace y2 := kq.blk y2 (by omega)
        replace z := kq.blk z (by omega)
        replace v := kq.blk v (by omega)
        clear hr kq kk5 h5 len5
        go_upto_region 15 with fail
        obtain ⟨s, x, E⟩ : ∃ v y, stR x6 = (v, y) := ⟨_, _, rfl⟩
        have hr := rst_any g x6 (W6).drew h6 len6; rw [E] at hr
        have len7 := stR_len x6; have sb7 := st_bd x6; rw [E] at len7 sb7; replace len7 : x.s.length ≤ 100000 := Nat.le_trans len7 len6; replace sb7 : s.Bd := sb7
        have HE7 := Lib.hid E; clear E
        have hmk := fun W (h : Tab W) => make_any o2 b s s5 W h sb7 sb5 (by omega) (by omega)
        simp only [mkV_R] at hmk
        have hrb := mkR_bd o2 b s s5 sb7 sb5
        obtain ⟨r, hR⟩ : ∃ r, mkR o2 b s s5 = r := ⟨_, rfl⟩
        obtain ⟨en, hN⟩ : ∃ r, mkE o2 b s s5 = r := ⟨_, rfl⟩
        rw [hR] at hrb; simp only [hR, hN] at hmk
        have HR := Lib.hid hR; have HN := Lib.hid hN; clear hR hN
        have kkd : KB g w (W6).drew := ⟨kk6.b.drew, kk6.k⟩
        have y6 : Blk (W6).drew w.heap.size 26 #[.int .i32 0, .int .i32 0, .int .i32 0, .int .u16 0, .int .u16 0, .int .u16 0, .int .u16 0, .int .u16 0, .int .u16 0, .int .u16 0, .int .u16 0, .int .u16 0, .int .u16 0, .int .u16 0, .int .u16 0, .int .u16 0, .int .u16 0, .int .u16 0, .int .u16 0] := y2
        have z6 : Blk (W6).drew gz 26 #[.int .i32 0, .int .i32 0, .int .i32 0, .int .u16 0, .int .u16 0, .int .u16 0, .int .u16 0, .int .u16 0, .int .u16 0, .int .u16 0, .int .u16 0, .int .u16 0, .int .u16 0, .int .u16 0, .int .u16 0, .int .u16 0, .int .u16 0, .int .u16 0, .int .u16 0] := z
        have ZS := Lib.hid (s15_mk (show Blk (W6).drew gs 24 (sA s5) from v))
        clear y2 z v h6 kk6 len6
        refine wp_region_held_drew (S := fun w' => Blk w' gs 24 (sA s5) ∧ ldT 24 (.pointer (some ⟨gs, 0, none⟩)) w' = some (sA s5)) (by kernel_rfl) (ZS.out) (fun hHeld => ?_)
        refine wpAnyH_take (i := 0) (oi := { dst := some 49, op := Op.move (Operand.tmp 9), type := 2, pos := "footer.go:245", after := #[], guard := none }) (v := ?_) rfl (by kernel_rfl) (by kernel_rfl) (by kernel_rfl) (fun _ _ _ h => h) (Or.inl ⟨by rfl, ?_⟩) hHeld ?_
        rotate_left
        · intro w hSw
          try dsimp only at hSw
          go_simp
          try with_reducible rfl
        try simp only [Act.put, List.setIfInBounds_toArray, List.set_cons_zero, List.set_cons_succ]
        refine wpAnyH_take (i := 1) (oi := { dst := some 50, op := Op.move (Operand.tmp 12), type := 2, pos := "footer.go:245", after := #[], guard := none }) (v := ?_) rfl (by kernel_rfl) (by kernel_rfl) (by kernel_rfl) (fun _ _ _ h => h) (Or.inl ⟨by rfl, ?_⟩) hHeld ?_
        rotate_left
        · intro w hSw
          try dsimp only at hSw
          go_simp
          try with_reducible rfl
        try simp only [Act.put, List.setIfInBounds_toArray, List.set_cons_zero, List.set_cons_succ]
        refine wpAnyH_take (i := 2) (oi := { dst := some 51, op := Op.move (Operand.tmp 6), type := 52, pos := "footer.go:245", after := #[], guard := none }) (v := ?_) rfl (by kernel_rfl) (by kernel_rfl) (by kernel_rfl) (fun _ _ _ h => h) (Or.inl ⟨by rfl, ?_⟩) hHeld ?_
        rotate_left
        · intro w hSw
          try dsimp only at hSw
          go_simp
          try with_reducible rfl
        try simp only [Act.put, List.setIfInBounds_toArray, List.set_cons_zero, List.set_cons_succ]
        refine wpAnyH_take (i := 4) (oi := { dst := some 53, op := Op.load 24 (Operand.tmp 13), type := 24, pos := "footer.go:245", after := #[], guard := none }) (v := ?_) rfl (by kernel_rfl) (by kernel_rfl) (by kernel_rfl) (fun _ _ _ h => h) (Or.inl ⟨by rfl, ?_⟩) hHeld ?_
        rotate_left
        · intro w hSw
          try dsimp only at hSw
          go_simp
          try with_reducible rfl
        try simp only [Act.put, List.setIfInBounds_toArray, List.set_cons_zero, List.set_cons_succ]
        refine wpAnyH_ready (rs := [3]) (by kernel_rfl) (by simp) ?_
        refine AllReadyH.cons (o := { dst := some 52, op := Op.call { callee := Callee.value (Operand.func 31), args := #[Operand.tmp 51], argTypes := #[52] }, type := 24, pos := "footer.go:245", after := #[{ on := 2, ground := Ground.data }], guard := none }) rfl (fun K hK => ?_) (AllReadyH.nil)
        go_simp
        refine hr.mono ?_; rintro e W7 ⟨rfl, h7, kq⟩
        have kk7 := kkd.trans kq
        have y7 := kq.blk y6 (by omega)
        have z7 := kq.blk z6 (by omega)
        clear hr kkd y6 z6
        try go_wp2_with fail
        refine hK.out _ _ (s15_on hHeld.1 (by omega) kq) (fun hHeld2 => ?_)
        clear hK K hHeld; have hHeld := hHeld2; clear hHeld2
        try simp only [Act.put, List.setIfInBounds_toArray, List.set_cons_zero, List.set_cons_succ]
        refine wpAnyH_ready (rs := [5]) (by kernel_rfl) (by simp) ?_
        refine AllReadyH.cons (o := { dst := some 54, op := Op.call { callee := Callee.value (Operand.func 32), args := #[Operand.tmp 49, Operand.tmp 50, Operand.tmp 52, Operand.tmp 53], argTypes := #[2, 2, 24, 24] }, type := 57, pos := "footer.go:245", after := #[{ on := 0, ground := Ground.data }, { on := 1, ground := Ground.data }, { on := 3, ground := Ground.data }, { on := 4, ground := Ground.data }, { on := 3, ground := Ground.chain }], guard := none }) rfl (fun K hK => ?_) (AllReadyH.nil)
        go_simp
        refine (hmk _ (hT.below hT.1 (kk7.below (by omega) (Nat.le_refl _)))).mono ?_; rintro e W8 ⟨rfl, hbl⟩
        have kq : KB g W7 W8 := KB.of hbl
        have kk8 := kk7.trans kq
        have h8 : Rd W8 g x := h7.below hbl h7.lt
        have y8 := kq.blk y7 (by omega)
        have z8 := kq.blk z7 (by omega)
        clear hmk kk7 y7 z7 h7
        try go_wp2_with fail
        refine hK.out _ _ (s15_on hHeld.1 (by omega) kq) (fun hHeld2 => ?_)
        clear hK K hHeld; have hHeld := hHeld2; clear hHeld2
        try simp only [Act.put, List.setIfInBounds_toArray, List.set_cons_zero, List.set_cons_succ]
        refine wpAnyH_take (i := 6) (oi := { dst := some 48, op := Op.move (Operand.tmp 54), type := 57, pos := "footer.go:245", after := #[{ on := 5, ground := Ground.data }], guard := none }) (v := ?_) rfl (by kernel_rfl) (by kernel_rfl) (by kernel_rfl) (fun _ _ _ h => h) (Or.inl ⟨by rfl, ?_⟩) hHeld ?_
        rotate_left
        · intro w hSw
          try dsimp only at hSw
          go_simp
          try with_reducible rfl
        try simp only [Act.put, List.setIfInBounds_toArray, List.set_cons_zero, List.set_cons_succ]
        refine wpAnyH_take (i := 7) (oi := { dst := some 55, op := Op.extract (Operand.tmp 48) 0, type := 26, pos := "footer.go:245", after := #[{ on := 6, ground := Ground.data }], guard := none }) (v := ?_) rfl (by kernel_rfl) (by kernel_rfl) (by kernel_rfl) (fun _ _ _ h => h) (Or.inl ⟨by rfl, ?_⟩) hHeld ?_
        rotate_left
        · intro w hSw
          try dsimp only at hSw
          go_simp
          try with_reducible rfl
        try simp only [Act.put, List.setIfInBounds_toArray, List.set_cons_zero, List.set_cons_succ]
        refine wpAnyH_take (i := 8) (oi := { dst := some 56, op := Op.extract (Operand.tmp 48) 1, type := 28, pos := "footer.go:245", after := #[{ on := 6, ground := Ground.data }, { on := 9, ground := Ground.gcOnly Departure.lateStores }], guard := none }) (v := ?_) rfl (by kernel_rfl) (by kernel_rfl) (by kernel_rfl) (fun _ _ _ h => h) (Or.inl ⟨by rfl, ?_⟩) hHeld ?_
        rotate_left
        · intro w hSw
          try dsimp only at hSw
          go_simp
          try with_reducible rfl
        try simp only [Act.put, List.setIfInBounds_toArray, List.set_cons_zero, List.set_cons_succ]
        refine wpAnyH_ready (rs := [9]) (by kernel_rfl) (by simp) ?_
        refine AllReadyH.cons (o := { dst := none, op := Op.store 26 (Operand.tmp 10) (Operand.tmp 55), type := 0, pos := "footer.go:245", after := #[{ on := 7, ground := Ground.data }, { on := 5, ground := Ground.chain }, { on := 0, ground := Ground.phase }, { on := 1, ground := Ground.phase }, { on := 2, ground := Ground.phase }, { on := 3, ground := Ground.phase }, { on := 4, ground := Ground.phase }, { on := 5, ground := Ground.phase }, { on := 6, ground := Ground.phase }, { on := 7, ground := Ground.phase }, { on := 8, ground := Ground.textOnly Departure.lateStores }], guard := none }) rfl (fun K hK => ?_) (AllReadyH.nil)
        rw [if_pos (by rfl)]
        refine wp_store_g 26 (.tmp 10) (.tmp 55) rfl rfl gz 0 r.A r.A rfl rfl _ _ z8 (Nat.le_refl 19) (by kernel_rfl) (by kernel_rfl) (by kernel_rfl) ?_
        refine hK.out _ _ (s15_mk (Blk.rowFar hHeld.1 (by omega) _)) (fun hHeld2 => ?_)
        clear hK K hHeld; have hHeld := hHeld2; clear hHeld2
        try simp only [Act.put, List.setIfInBounds_toArray, List.set_cons_zero, List.set_cons_succ]
        refine wpAnyH_take (i := 10) (oi := { dst := some 11, op := Op.assign (Operand.tmp 56), type := 28, pos := "footer.go:245", after := #[{ on := 8, ground := Ground.data }, { on := 9, ground := Ground.chain }, { on := 0, ground := Ground.phase }, { on := 1, ground := Ground.phase }, { on := 2, ground := Ground.phase }, { on := 3, ground := Ground.phase }, { on := 4, ground := Ground.phase }, { on := 5, ground := Ground.phase }, { on := 6, ground := Ground.phase }, { on := 7, ground := Ground.phase }, { on := 8, ground := Ground.phase }, { on := 9, ground := Ground.phase }], guard := none }) (v := ?_) rfl (by kernel_rfl) (by kernel_rfl) (by kernel_rfl) (fun _ _ _ h => h) (Or.inl ⟨by rfl, ?_⟩) hHeld ?_
        rotate_left
        · intro w hSw
          try dsimp only at hSw
          go_simp
          try with_reducible rfl
        try simp only [Act.put, List.setIfInBounds_toArray, List.set_cons_zero, List.set_cons_succ]
        refine wpAnyH_done (by kernel_rfl) ?_ _
        go_wp2_with fail
        go_meet
        refine ⟨⟨r, en, a1, a3, x⟩, ?_, rfl, rfl, rfl, Blk.rowFar h8 (by omega) _, Blk.row z8 _, Blk.rowFar y8 (by omega) _, kk8.rowN (by omega) _, len7⟩
        unfold parW; rw [show (⟨L s0, false⟩ : Rs) = x0 from HX.out.symm]; simp only [HE1.out, HE2.out]; rw [if_neg HNE.out]; simp only [HE3.out, HD.out, HE5.out, HE6.out, HE7.out, HR.out, HN.out]
      | false =>
        obtain ⟨o5, x5, E5⟩ : ∃ v y, offR x4 = (v, y) := ⟨_, _, rfl⟩
        have hr := roff_any g x4 _ h4 len4
        rw [E5] at hr
        have len5 := offR_len x4; have ob5 := off_bd x4; rw [E5] at len5 ob5; replace len5 : x5.s.length ≤ 100000 := Nat.le_trans len5 len4; replace ob5 : -400000 ≤ o5 ∧ o5 ≤ 400000 := ob5
        have HE5 := Lib.hid E5; clear E5
        go_wp2_with fail
        refine hr.mono ?_; rintro e W5 ⟨rfl, h5, kq⟩
        have kk5 := kk4.trans kq
        replace y2 := kq.blk y2 (by omega)
        replace z := kq.blk z (by omega)
        clear hr kq kk4 h4 len4
        obtain ⟨x6, E6⟩ : ∃ y, mustR 44 x5 = y := ⟨_, rfl⟩
        have hr := must_any g 44 x5 _ h5
        rw [E6] at hr
        have len6 := must_len 44 x5; rw [E6] at len6; replace len6 : x6.s.length ≤ 100000 := Nat.le_trans len6 len5
        have HE6 := Lib.hid E6; clear E6
        go_wp2_with fail
        refine hr.mono ?_; rintro e W6 ⟨rfl, h6, kq⟩
        have kk6 := kk5.trans kq
        replace y2 := kq.blk y2 (by omega)
        replace z := kq.blk z (by omega)
        clear hr kq kk5 h5 len5
        have HD0 := Lib.hid (show dstR o2 x3 = (o5, x6) by unfold dstR; rw [HE4.out]; simp only [HE5.out, HE6.out]; rfl)
        generalize o5 = b at *
        have HD := HD0
        obtain ⟨s7, x7, E7⟩ : ∃ v y, stR x6 = (v, y) := ⟨_, _, rfl⟩
        have hr := rst_any g x6 _ h6 len6
        rw [E7] at hr
        have len7 := stR_len x6; have sb7 := st_bd x6; rw [E7] at len7 sb7; replace len7 : x7.s.length ≤ 100000 := Nat.le_trans len7 len6; replace sb7 : s7.Bd := sb7
        have HE7 := Lib.hid E7; clear E7
        go_wp2_with fail
        refine hr.mono ?_; rintro e W7 ⟨rfl, h7, kq⟩
        have kk7 := kk6.trans kq
        replace y2 := kq.blk y2 (by omega)
        replace z := kq.blk z (by omega)
        clear hr kq kk6 h6 len6
        go_upto_region 14 with (refine wpList_store_new rfl 24 _ _ rfl rfl W7.heap.size (sA s7) rfl rfl _ #[.int .u16 0, .int .u16 0, .int .u16 0, .int .u16 0, .int .u16 0, .int .u16 0, .int .u16 0, .int .u16 0] W7 rfl rfl rfl (by kernel_rfl) (by kernel_rfl) ?_)
        have v := Blk.new W7 24 (sA s7)
        have hgs : g < W7.heap.size := h7.lt; have hgz : gz < W7.heap.size := z.lt
        replace h7 := h7.alloc (.cells (sA s7) 24); replace y2 := y2.alloc (.cells (sA s7) 24); replace z := z.alloc (.cells (sA s7) 24)
        replace kk7 : KB g w (W7.alloc (.cells (sA s7) 24)) := kk7.trans (KB.of ((Below.refl _ _).alloc (Nat.le_refl _) _))
        generalize W7.heap.size = gs at *
        obtain ⟨x8, E8⟩ : ∃ y, mustR 44 x7 = y := ⟨_, rfl⟩
        have hr := must_any g 44 x7 _ h7
        rw [E8] at hr
        have len8 := must_len 44 x7; rw [E8] at len8; replace len8 : x8.s.length ≤ 100000 := Nat.le_trans len8 len7
        have HE8 := Lib.hid E8; clear E8
        go_wp2_with fail
        refine hr.mono ?_; rintro e W8 ⟨rfl, h8, kq⟩
        have kk8 := kk7.trans kq
        replace y2 := kq.blk y2 (by omega)
        replace z := kq.blk z (by omega)
        replace v := kq.blk v (by omega)
        clear hr kq kk7 h7 len7
        go_upto_region 15 with fail
        obtain ⟨s, x, E⟩ : ∃ v y, stR x8 = (v, y) := ⟨_, _, rfl⟩
        have hr := rst_any g x8 (W8).drew h8 len8; rw [E] at hr
        have len9 := stR_len x8; have sb9 := st_bd x8; rw [E] at len9 sb9; replace len9 : x.s.length ≤ 100000 := Nat.le_trans len9 len8; replace sb9 : s.Bd := sb9
        have HE9 := Lib.hid E; clear E
        have hmk := fun W (h : Tab W) => make_any o2 b s s7 W h sb9 sb7 (by omega) (by omega)
        simp only [mkV_R] at hmk
        have hrb := mkR_bd o2 b s s7 sb9 sb7
        obtain ⟨r, hR⟩ : ∃ r, mkR o2 b s s7 = r := ⟨_, rfl⟩
        obtain ⟨en, hN⟩ : ∃ r, mkE o2 b s s7 = r := ⟨_, rfl⟩
        rw [hR] at hrb; simp only [hR, hN] at hmk
        have HR := Lib.hid hR; have HN := Lib.hid hN; clear hR hN
        have kkd : KB g w (W8).drew := ⟨kk8.b.drew, kk8.k⟩
        have y6 : Blk (W8).drew w.heap.size 26 #[.int .i32 0, .int .i32 0, .int .i32 0, .int .u16 0, .int .u16 0, .int .u16 0, .int .u16 0, .int .u16 0, .int .u16 0, .int .u16 0, .int .u16 0, .int .u16 0, .int .u16 0, .int .u16 0, .int .u16 0, .int .u16 0, .int .u16 0, .int .u16 0, .int .u16 0] := y2
        have z6 : Blk (W8).drew gz 26 #[.int .i32 0, .int .i32 0, .int .i32 0, .int .u16 0, .int .u16 0, .int .u16 0, .int .u16 0, .int .u16 0, .int .u16 0, .int .u16 0, .int .u16 0, .int .u16 0, .int .u16 0, .int .u16 0, .int .u16 0, .int .u16 0, .int .u16 0, .int .u16 0, .int .u16 0] := z
        have ZS := Lib.hid (s15_mk (show Blk (W8).drew gs 24 (sA s7) from v))
        clear y2 z v h8 kk8 len8
        refine wp_region_held_drew (S := fun w' => Blk w' gs 24 (sA s7) ∧ ldT 24 (.pointer (some ⟨gs, 0, none⟩)) w' = some (sA s7)) (by kernel_rfl) (ZS.out) (fun hHeld => ?_)
        refine wpAnyH_take (i := 0) (oi := { dst := some 49, op := Op.move (Operand.tmp 9), type := 2, pos := "footer.go:245", after := #[], guard := none }) (v := ?_) rfl (by kernel_rfl) (by kernel_rfl) (by kernel_rfl) (fun _ _ _ h => h) (Or.inl ⟨by rfl, ?_⟩) hHeld ?_
        rotate_left
        · intro w hSw
          try dsimp only at hSw
          go_simp
          try with_reducible rfl
        try simp only [Act.put, List.setIfInBounds_toArray, List.set_cons_zero, List.set_cons_succ]
        refine wpAnyH_take (i := 1) (oi := { dst := some 50, op := Op.move (Operand.tmp 12), type := 2, pos := "footer.go:245", after := #[], guard := none }) (v := ?_) rfl (by kernel_rfl) (by kernel_rfl) (by kernel_rfl) (fun _ _ _ h => h) (Or.inl ⟨by rfl, ?_⟩) hHeld ?_
        rotate_left
        · intro w hSw
          try dsimp only at hSw
          go_simp
          try with_reducible rfl
        try simp only [Act.put, List.setIfInBounds_toArray, List.set_cons_zero, List.set_cons_succ]
        refine wpAnyH_take (i := 2) (oi := { dst := some 51, op := Op.move (Operand.tmp 6), type := 52, pos := "footer.go:245", after := #[], guard := none }) (v := ?_) rfl (by kernel_rfl) (by kernel_rfl) (by kernel_rfl) (fun _ _ _ h => h) (Or.inl ⟨by rfl, ?_⟩) hHeld ?_
        rotate_left
        · intro w hSw
          try dsimp only at hSw
          go_simp
          try with_reducible rfl
        try simp only [Act.put, List.setIfInBounds_toArray, List.set_cons_zero, List.set_cons_succ]
        refine wpAnyH_take (i := 4) (oi := { dst := some 53, op := Op.load 24 (Operand.tmp 13), type := 24, pos := "footer.go:245", after := #[], guard := none }) (v := ?_) rfl (by kernel_rfl) (by kernel_rfl) (by kernel_rfl) (fun _ _ _ h => h) (Or.inl ⟨by rfl, ?_⟩) hHeld ?_
        rotate_left
        · intro w hSw
          try dsimp only at hSw
          go_simp
          try with_reducible rfl
        try simp only [Act.put, List.setIfInBounds_toArray, List.set_cons_zero, List.set_cons_succ]
        refine wpAnyH_ready (rs := [3]) (by kernel_rfl) (by simp) ?_
        refine AllReadyH.cons (o := { dst := some 52, op := Op.call { callee := Callee.value (Operand.func 31), args := #[Operand.tmp 51], argTypes := #[52] }, type := 24, pos := "footer.go:245", after := #[{ on := 2, ground := Ground.data }], guard := none }) rfl (fun K hK => ?_) (AllReadyH.nil)
        go_simp
        refine hr.mono ?_; rintro e W7 ⟨rfl, h7, kq⟩
        have kk7 := kkd.trans kq
        have y7 := kq.blk y6 (by omega)
        have z7 := kq.blk z6 (by omega)
        clear hr kkd y6 z6
        try go_wp2_with fail
        refine hK.out _ _ (s15_on hHeld.1 (by omega) kq) (fun hHeld2 => ?_)
        clear hK K hHeld; have hHeld := hHeld2; clear hHeld2
        try simp only [Act.put, List.setIfInBounds_toArray, List.set_cons_zero, List.set_cons_succ]
        refine wpAnyH_ready (rs := [5]) (by kernel_rfl) (by simp) ?_
        refine AllReadyH.cons (o := { dst := some 54, op := Op.call { callee := Callee.value (Operand.func 32), args := #[Operand.tmp 49, Operand.tmp 50, Operand.tmp 52, Operand.tmp 53], argTypes := #[2, 2, 24, 24] }, type := 57, pos := "footer.go:245", after := #[{ on := 0, ground := Ground.data }, { on := 1, ground := Ground.data }, { on := 3, ground := Ground.data }, { on := 4, ground := Ground.data }, { on := 3, ground := Ground.chain }], guard := none }) rfl (fun K hK => ?_) (AllReadyH.nil)
        go_simp
        refine (hmk _ (hT.below hT.1 (kk7.below (by omega) (Nat.le_refl _)))).mono ?_; rintro e W8 ⟨rfl, hbl⟩
        have kq : KB g W7 W8 := KB.of hbl
        have kk8 := kk7.trans kq
        have h8 : Rd W8 g x := h7.below hbl h7.lt
        have y8 := kq.blk y7 (by omega)
        have z8 := kq.blk z7 (by omega)
        clear hmk kk7 y7 z7 h7
        try go_wp2_with fail
        refine hK.out _ _ (s15_on hHeld.1 (by omega) kq) (fun hHeld2 => ?_)
        clear hK K hHeld; have hHeld := hHeld2; clear hHeld2
        try simp only [Act.put, List.setIfInBounds_toArray, List.set_cons_zero, List.set_cons_succ]
        refine wpAnyH_take (i := 6) (oi := { dst := some 48, op := Op.move (Operand.tmp 54), type := 57, pos := "footer.go:245", after := #[{ on := 5, ground := Ground.data }], guard := none }) (v := ?_) rfl (by kernel_rfl) (by kernel_rfl) (by kernel_rfl) (fun _ _ _ h => h) (Or.inl ⟨by rfl, ?_⟩) hHeld ?_
        rotate_left
        · intro w hSw
          try dsimp only at hSw
          go_simp
          try with_reducible rfl
        try simp only [Act.put, List.setIfInBounds_toArray, List.set_cons_zero, List.set_cons_succ]
        refine wpAnyH_take (i := 7) (oi := { dst := some 55, op := Op.extract (Operand.tmp 48) 0, type := 26, pos := "footer.go:245", after := #[{ on := 6, ground := Ground.data }], guard := none }) (v := ?_) rfl (by kernel_rfl) (by kernel_rfl) (by kernel_rfl) (fun _ _ _ h => h) (Or.inl ⟨by rfl, ?_⟩) hHeld ?_
        rotate_left
        · intro w hSw
          try dsimp only at hSw
          go_simp
          try with_reducible rfl
        try simp only [Act.put, List.setIfInBounds_toArray, List.set_cons_zero, List.set_cons_succ]
        refine wpAnyH_take (i := 8) (oi := { dst := some 56, op := Op.extract (Operand.tmp 48) 1, type := 28, pos := "footer.go:245", after := #[{ on := 6, ground := Ground.data }, { on := 9, ground := Ground.gcOnly Departure.lateStores }], guard := none }) (v := ?_) rfl (by kernel_rfl) (by kernel_rfl) (by kernel_rfl) (fun _ _ _ h => h) (Or.inl ⟨by rfl, ?_⟩) hHeld ?_
        rotate_left
        · intro w hSw
          try dsimp only at hSw
          go_simp
          try with_reducible rfl
        try simp only [Act.put, List.setIfInBounds_toArray, List.set_cons_zero, List.set_cons_succ]
        refine wpAnyH_ready (rs := [9]) (by kernel_rfl) (by simp) ?_
        refine AllReadyH.cons (o := { dst := none, op := Op.store 26 (Operand.tmp 10) (Operand.tmp 55), type := 0, pos := "footer.go:245", after := #[{ on := 7, ground := Ground.data }, { on := 5, ground := Ground.chain }, { on := 0, ground := Ground.phase }, { on := 1, ground := Ground.phase }, { on := 2, ground := Ground.phase }, { on := 3, ground := Ground.phase }, { on := 4, ground := Ground.phase }, { on := 5, ground := Ground.phase }, { on := 6, ground := Ground.phase }, { on := 7, ground := Ground.phase }, { on := 8, ground := Ground.textOnly Departure.lateStores }], guard := none }) rfl (fun K hK => ?_) (AllReadyH.nil)
        rw [if_pos (by rfl)]
        refine wp_store_g 26 (.tmp 10) (.tmp 55) rfl rfl gz 0 r.A r.A rfl rfl _ _ z8 (Nat.le_refl 19) (by kernel_rfl) (by kernel_rfl) (by kernel_rfl) ?_
        refine hK.out _ _ (s15_mk (Blk.rowFar hHeld.1 (by omega) _)) (fun hHeld2 => ?_)
        clear hK K hHeld; have hHeld := hHeld2; clear hHeld2
        try simp only [Act.put, List.setIfInBounds_toArray, List.set_cons_zero, List.set_cons_succ]
        refine wpAnyH_take (i := 10) (oi := { dst := some 11, op := Op.assign (Operand.tmp 56), type := 28, pos := "footer.go:245", after := #[{ on := 8, ground := Ground.data }, { on := 9, ground := Ground.chain }, { on := 0, ground := Ground.phase }, { on := 1, ground := Ground.phase }, { on := 2, ground := Ground.phase }, { on := 3, ground := Ground.phase }, { on := 4, ground := Ground.phase }, { on := 5, ground := Ground.phase }, { on := 6, ground := Ground.phase }, { on := 7, ground := Ground.phase }, { on := 8, ground := Ground.phase }, { on := 9, ground := Ground.phase }], guard := none }) (v := ?_) rfl (by kernel_rfl) (by kernel_rfl) (by kernel_rfl) (fun _ _ _ h => h) (Or.inl ⟨by rfl, ?_⟩) hHeld ?_
        rotate_left
        · intro w hSw
          try dsimp only at hSw
          go_simp
          try with_reducible rfl
        try simp only [Act.put, List.setIfInBounds_toArray, List.set_cons_zero, List.set_cons_succ]
        refine wpAnyH_done (by kernel_rfl) ?_ _
        go_wp2_with fail
        go_meet
        refine ⟨⟨r, en, a1, a3, x⟩, ?_, rfl, rfl, rfl, Blk.rowFar h8 (by omega) _, Blk.row z8 _, Blk.rowFar y8 (by omega) _, kk8.rowN (by omega) _, len9⟩
        unfold parW; rw [show (⟨L s0, false⟩ : Rs) = x0 from HX.out.symm]; simp only [HE1.out, HE2.out]; rw [if_neg HNE.out]; simp only [HE3.out, HD.out, HE7.out, HE8.out, HE9.out, HR.out, HN.out]
  case rest =>
    obtain ⟨p, hp, rfl, rfl, rfl, h, z, y, kk, len⟩ := hcut
    have c0 := Blk.cell h 0; have f0 := Blk.frozen h 0; have c1 := Blk.cell h 1; have f1 := Blk.frozen h 1
    have e0 : (#[Value.string (B p.x.s), Value.bool p.x.bad] : Array Value)[0]? = some (.string (B p.x.s)) := rfl
    have e1 : (#[Value.string (B p.x.s), Value.bool p.x.bad] : Array Value)[1]? = some (.bool p.x.bad) := rfl
    rw [e0] at c0; rw [e1] at c1; clear e0 e1
    cases hb : p.x.bad with
    | true =>
      have HV := Lib.hid (parV_no hp (fun q => by rw [q.1] at hb; cases hb)).symm
      rw [hb] at c1; clear hb hT hQ
      rcases Bool.eq_false_or_eq_true (p.e == 0) with he | he <;> rcases Bool.eq_false_or_eq_true p.x.s.isEmpty with hs0 | hs0
      all_goals go_wp2_with (refine wpList_store_seg rfl 26 _ _ rfl rfl w.heap.size 0 #[.int .i32 0, .int .i32 0, .int .i32 0, .int .u16 0, .int .u16 0, .int .u16 0, .int .u16 0, .int .u16 0, .int .u16 0, .int .u16 0, .int .u16 0, .int .u16 0, .int .u16 0, .int .u16 0, .int .u16 0, .int .u16 0, .int .u16 0, .int .u16 0, .int .u16 0] #[.int .i32 0, .int .i32 0, .int .i32 0, .int .u16 0, .int .u16 0, .int .u16 0, .int .u16 0, .int .u16 0, .int .u16 0, .int .u16 0, .int .u16 0, .int .u16 0, .int .u16 0, .int .u16 0, .int .u16 0, .int .u16 0, .int .u16 0, .int .u16 0, .int .u16 0] rfl rfl _ _ y (Nat.le_refl 19) (by kernel_rfl) (by kernel_rfl) (by kernel_rfl) ?_)
      all_goals try simp only [Exit.inBlock, Exit.then]
      all_goals refine bodyPost_ret (results_p4 (p := 2) (a := 3) (b := 4) (c := 5) rfl _ _ _ _ _ (.string ⟨#[]⟩) (.string ⟨#[]⟩) (.int .i64 4) rfl rfl rfl rfl (Blk.row y #[.int .i32 0, .int .i32 0, .int .i32 0, .int .u16 0, .int .u16 0, .int .u16 0, .int .u16 0, .int .u16 0, .int .u16 0, .int .u16 0, .int .u16 0, .int .u16 0, .int .u16 0, .int .u16 0, .int .u16 0, .int .u16 0, .int .u16 0, .int .u16 0, .int .u16 0]) rfl) rfl ⟨congrArg Ending.returned HV.out, below_row (kk.below (by omega) (Nat.le_refl _)) (Nat.le_refl _) _⟩
    | false =>
      rw [hb] at c1
      by_cases he : p.e = 0
      · rw [he]
        cases hs0 : p.x.s.isEmpty with
        | false =>
          have HV := Lib.hid (parV_no hp (fun q => by rw [q.2.2.1] at hs0; cases hs0)).symm
          clear hb hT hQ he
          all_goals go_wp2_with (refine wpList_store_seg rfl 26 _ _ rfl rfl w.heap.size 0 #[.int .i32 0, .int .i32 0, .int .i32 0, .int .u16 0, .int .u16 0, .int .u16 0, .int .u16 0, .int .u16 0, .int .u16 0, .int .u16 0, .int .u16 0, .int .u16 0, .int .u16 0, .int .u16 0, .int .u16 0, .int .u16 0, .int .u16 0, .int .u16 0, .int .u16 0] #[.int .i32 0, .int .i32 0, .int .i32 0, .int .u16 0, .int .u16 0, .int .u16 0, .int .u16 0, .int .u16 0, .int .u16 0, .int .u16 0, .int .u16 0, .int .u16 0, .int .u16 0, .int .u16 0, .int .u16 0, .int .u16 0, .int .u16 0, .int .u16 0, .int .u16 0] rfl rfl _ _ y (Nat.le_refl 19) (by kernel_rfl) (by kernel_rfl) (by kernel_rfl) ?_)
          all_goals try simp only [Exit.inBlock, Exit.then]
          all_goals refine bodyPost_ret (results_p4 (p := 2) (a := 3) (b := 4) (c := 5) rfl _ _ _ _ _ (.string ⟨#[]⟩) (.string ⟨#[]⟩) (.int .i64 4) rfl rfl rfl rfl (Blk.row y #[.int .i32 0, .int .i32 0, .int .i32 0, .int .u16 0, .int .u16 0, .int .u16 0, .int .u16 0, .int .u16 0, .int .u16 0, .int .u16 0, .int .u16 0, .int .u16 0, .int .u16 0, .int .u16 0, .int .u16 0, .int .u16 0, .int .u16 0, .int .u16 0, .int .u16 0]) rfl) rfl ⟨congrArg Ending.returned HV.out, below_row (kk.below (by omega) (Nat.le_refl _)) (Nat.le_refl _) _⟩
        | true =>
          have hse := List.isEmpty_iff.1 hs0
          rw [hse] at c0; clear hs0
          obtain ⟨l1, l2, hB⟩ := par_names (L s0)
          rw [hp] at l1 l2 hB
          have l3 : (L s0).length ≤ 1000 := by rw [L_len]; exact hs
          have bW := kk.below (Bd := w.heap.size) (by omega) (Nat.le_refl _)
          have LL : ∀ l : List UInt8, L (B l) = l := fun l => rfl
          by_cases hE : foE p.r p.n p.d = 0
          · have hq := fun W h h2 => ftext_ok p.r (B p.n) (B p.d) W h h2 hB (by rw [B_len]; omega) (by rw [B_len]; omega) (by rw [LL, LL]; exact hE)
            simp only [LL] at hq
            have hTw := hT.below hT.1 bW
            have hQw := (Lib.tabBelow_of_tabIs hQ) _ bW
            by_cases hc : foT p.r p.n p.d = L s0
            · have HV := Lib.hid (parV_yes hp ⟨hb, he, hse, hE, hc⟩).symm
              have ec : B (foT p.r p.n p.d) = s0 := by rw [hc, B_L]
              simp only [ec] at hq
              clear ec hc hb hQ he hp hse LL l1 l2 l3 hB hE
              go_wp2_with (refine wpList_row_g rfl 26 _ rfl _ rfl _ _ _ _ z Tryd.underlying26 rfl (by kernel_rfl) ?_)
              refine (hq _ hTw hQw).mono ?_; rintro e W9 ⟨rfl, hbl⟩
              replace y := y.below hbl y.lt; replace z := z.below hbl z.lt; replace bW := bW.trans (hbl.mono bW.size)
              clear hq hbl h kk c0 c1 f0 f1 len hT hTw hQw
              go_wp2_with (first | (refine wpList_store_seg rfl 26 _ _ rfl rfl w.heap.size 0 p.r.A p.r.A rfl rfl _ _ y (Nat.le_refl 19) (by kernel_rfl) (by kernel_rfl) (by kernel_rfl) ?_) | (refine wpList_row_g rfl 26 _ rfl _ rfl _ _ _ _ z Tryd.underlying26 rfl (by kernel_rfl) ?_))
              all_goals try simp only [Exit.inBlock, Exit.then]
              refine bodyPost_ret (results_p4 (p := 2) (a := 3) (b := 4) (c := 5) rfl _ _ _ _ _ (.string (B p.n)) (.string (B p.d)) (.int .i64 0) rfl rfl rfl rfl (Blk.row y p.r.A) rfl) rfl ⟨congrArg Ending.returned HV.out, below_row bW (Nat.le_refl _) _⟩
            · have HV := Lib.hid (parV_no hp (fun q => hc q.2.2.2.2)).symm
              have ec : ¬ B (foT p.r p.n p.d) = s0 := fun e => hc (congrArg L e)
              have ec2 := str_ne ec
              generalize B (foT p.r p.n p.d) = T at *
              clear hc hb hQ he hp hse LL l1 l2 l3 hB hE
              go_wp2_with (refine wpList_row_g rfl 26 _ rfl _ rfl _ _ _ _ z Tryd.underlying26 rfl (by kernel_rfl) ?_)
              refine (hq _ hTw hQw).mono ?_; rintro e W9 ⟨rfl, hbl⟩
              replace y := y.below hbl y.lt; replace bW := bW.trans (hbl.mono bW.size)
              clear hq hbl h z kk c0 c1 f0 f1 len hT hTw hQw
              all_goals go_wp2_with (refine wpList_store_seg rfl 26 _ _ rfl rfl w.heap.size 0 #[.int .i32 0, .int .i32 0, .int .i32 0, .int .u16 0, .int .u16 0, .int .u16 0, .int .u16 0, .int .u16 0, .int .u16 0, .int .u16 0, .int .u16 0, .int .u16 0, .int .u16 0, .int .u16 0, .int .u16 0, .int .u16 0, .int .u16 0, .int .u16 0, .int .u16 0] #[.int .i32 0, .int .i32 0, .int .i32 0, .int .u16 0, .int .u16 0, .int .u16 0, .int .u16 0, .int .u16 0, .int .u16 0, .int .u16 0, .int .u16 0, .int .u16 0, .int .u16 0, .int .u16 0, .int .u16 0, .int .u16 0, .int .u16 0, .int .u16 0, .int .u16 0] rfl rfl _ _ y (Nat.le_refl 19) (by kernel_rfl) (by kernel_rfl) (by kernel_rfl) ?_)
              all_goals try simp only [Exit.inBlock, Exit.then]
              all_goals refine bodyPost_ret (results_p4 (p := 2) (a := 3) (b := 4) (c := 5) rfl _ _ _ _ _ (.string ⟨#[]⟩) (.string ⟨#[]⟩) (.int .i64 4) rfl rfl rfl rfl (Blk.row y #[.int .i32 0, .int .i32 0, .int .i32 0, .int .u16 0, .int .u16 0, .int .u16 0, .int .u16 0, .int .u16 0, .int .u16 0, .int .u16 0, .int .u16 0, .int .u16 0, .int .u16 0, .int .u16 0, .int .u16 0, .int .u16 0, .int .u16 0, .int .u16 0, .int .u16 0]) rfl) rfl ⟨congrArg Ending.returned HV.out, below_row bW (Nat.le_refl _) _⟩
          · have hq := fun W h => ftext_no p.r (B p.n) (B p.d) W h hB (by rw [B_len]; omega) (by rw [B_len]; omega) (by rw [LL, LL]; exact hE)
            simp only [LL] at hq
            have hn : (foE p.r p.n p.d == 0) = false := by rw [beq_eq_false_iff_ne]; exact hE
            have HV := Lib.hid (parV_no hp (fun q => hE q.2.2.2.1)).symm
            have hTw := hT.below hT.1 bW
            generalize foE p.r p.n p.d = E at *
            clear hb hQ he hp hse LL l1 l2 l3 hB
            go_wp2_with (refine wpList_row_g rfl 26 _ rfl _ rfl _ _ _ _ z Tryd.underlying26 rfl (by kernel_rfl) ?_)
            refine (hq _ hTw).mono ?_; rintro e W9 ⟨rfl, hbl⟩
            replace y := y.below hbl y.lt; replace bW := bW.trans (hbl.mono bW.size)
            clear hq hbl h z kk c0 c1 f0 f1 len hT hTw
            all_goals go_wp2_with (refine wpList_store_seg rfl 26 _ _ rfl rfl w.heap.size 0 #[.int .i32 0, .int .i32 0, .int .i32 0, .int .u16 0, .int .u16 0, .int .u16 0, .int .u16 0, .int .u16 0, .int .u16 0, .int .u16 0, .int .u16 0, .int .u16 0, .int .u16 0, .int .u16 0, .int .u16 0, .int .u16 0, .int .u16 0, .int .u16 0, .int .u16 0] #[.int .i32 0, .int .i32 0, .int .i32 0, .int .u16 0, .int .u16 0, .int .u16 0, .int .u16 0, .int .u16 0, .int .u16 0, .int .u16 0, .int .u16 0, .int .u16 0, .int .u16 0, .int .u16 0, .int .u16 0, .int .u16 0, .int .u16 0, .int .u16 0, .int .u16 0] rfl rfl _ _ y (Nat.le_refl 19) (by kernel_rfl) (by kernel_rfl) (by kernel_rfl) ?_)
            all_goals try simp only [Exit.inBlock, Exit.then]
            all_goals refine bodyPost_ret (results_p4 (p := 2) (a := 3) (b := 4) (c := 5) rfl _ _ _ _ _ (.string ⟨#[]⟩) (.string ⟨#[]⟩) (.int .i64 4) rfl rfl rfl rfl (Blk.row y #[.int .i32 0, .int .i32 0, .int .i32 0, .int .u16 0, .int .u16 0, .int .u16 0, .int .u16 0, .int .u16 0, .int .u16 0, .int .u16 0, .int .u16 0, .int .u16 0, .int .u16 0, .int .u16 0, .int .u16 0, .int .u16 0, .int .u16 0, .int .u16 0, .int .u16 0]) rfl) rfl ⟨congrArg Ending.returned HV.out, below_row bW (Nat.le_refl _) _⟩
      · have heq : (p.e == 0) = false := by rw [beq_eq_false_iff_ne]; exact he
        have HV := Lib.hid (parV_no hp (fun q => he q.2.1)).symm
        clear hb hT hQ
        rcases Bool.eq_false_or_eq_true p.x.s.isEmpty with hs0 | hs0
        all_goals go_wp2_with (refine wpList_store_seg rfl 26 _ _ rfl rfl w.heap.size 0 #[.int .i32 0, .int .i32 0, .int .i32 0, .int .u16 0, .int .u16 0, .int .u16 0, .int .u16 0, .int .u16 0, .int .u16 0, .int .u16 0, .int .u16 0, .int .u16 0, .int .u16 0, .int .u16 0, .int .u16 0, .int .u16 0, .int .u16 0, .int .u16 0, .int .u16 0] #[.int .i32 0, .int .i32 0, .int .i32 0, .int .u16 0, .int .u16 0, .int .u16 0, .int .u16 0, .int .u16 0, .int .u16 0, .int .u16 0, .int .u16 0, .int .u16 0, .int .u16 0, .int .u16 0, .int .u16 0, .int .u16 0, .int .u16 0, .int .u16 0, .int .u16 0] rfl rfl _ _ y (Nat.le_refl 19) (by kernel_rfl) (by kernel_rfl) (by kernel_rfl) ?_)
        all_goals try simp only [Exit.inBlock, Exit.then]
        all_goals refine bodyPost_ret (results_p4 (p := 2) (a := 3) (b := 4) (c := 5) rfl _ _ _ _ _ (.string ⟨#[]⟩) (.string ⟨#[]⟩) (.int .i64 4) rfl rfl rfl rfl (Blk.row y #[.int .i32 0, .int .i32 0, .int .i32 0, .int .u16 0, .int .u16 0, .int .u16 0, .int .u16 0, .int .u16 0, .int .u16 0, .int .u16 0, .int .u16 0, .int .u16 0, .int .u16 0, .int .u16 0, .int .u16 0, .int .u16 0, .int .u16 0, .int .u16 0, .int .u16 0]) rfl) rfl ⟨congrArg Ending.returned HV.out, below_row (kk.below (by omega) (Nat.le_refl _)) (Nat.le_refl _) _⟩
end Go.Proofs.YtgdgkgeoigljcaaDoor.Fo
