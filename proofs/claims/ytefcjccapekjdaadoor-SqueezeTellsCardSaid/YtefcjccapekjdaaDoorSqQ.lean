/-
  THE SHORTEST TABLE: walked.
-/
import Derived.Test.YtefcjccapekjdaaDoorSqC
import Derived.Test.YtefcjccapekjdaaDoorLd
import Derived.Laws.CopyRow
import Derived.Laws.MakeOwn
import Derived.Deep.RegionHeld3
import Derived.BigQuiet
import Derived.Deep.CutBlock
import Derived.Deep.DeepCutAuto
namespace Go.Proofs.YtefcjccapekjdaaDoor.Sq
open Go.ChangeShapes Go.WideShapes Go.ChangeAt Go.RowKit
open Go.Proofs.YtefcjccapekjdaaDoor
open Go.Proofs.YtefcjccapekjdaaDoor.Wd
open Go.Proofs.YtefcjccapekjdaaDoor.Rec
open Go.Proofs.YtefcjccapekjdaaDoor.Yr
open Go.Proofs.YtefcjccapekjdaaDoor.Clk (yrV yrE)
open Go.Proofs.YtefcjccapekjdaaDoor.Civ (Tab Inv)
set_option linter.unusedVariables false
open Go.Proofs.YtefcjccapekjdaaDoor.Tb
open Go.Proofs.YtefcjccapekjdaaDoor.Ld
set_option linter.unusedSimpArgs false
theorem res_ct {fn : Func} {p q : Tmp} {T : TypeId} (h : fn.results = #[.cell p T, .tmp q]) (tmps : Array Value) (w : World) (g : Nat) (t : TypeId) (cs : Array Value) (v : Value) (d : TypeDesc)
    (hp : tmps.getD p undef = .pointer (some ⟨g, 0, none⟩)) (hq : tmps.getD q undef = v) (hg : Blk w g t cs)
    (hu : Tryd.prog.underlying T = some d) (hd : (match d with | .struct _ | .array _ _ => true | _ => false) = true) (hi : (Tryd.prog.info? T).map (·.size) = some cs.size) :
    (results fn tmps).run Tryd.prog w = .ok (.tuple #[.agg cs, v]) w := by
  have hp' : tmps[p]?.getD undef = .pointer (some ⟨g, 0, none⟩) := by simpa using hp
  have hq' : tmps[q]?.getD undef = v := by simpa using hq
  have hl : (loadVar T ⟨g, 0, none⟩).run Tryd.prog w = .ok (.agg cs) w := run_loadVar_row w g t T cs (0, 0) d hg hu (by cases d <;> first | rfl | exact hd) hi
  simp [results, h, hp', hq', asAddr, hl]
theorem run_copy_rows {P : Program} (w : World) (dT sT ty elem : TypeId) (g o dLen dCap : Nat) (a : Addr) (sLen sCap size : Nat) (cur : Array Value) (t : TypeId) (cs : List Value)
    (hu : P.underlying dT = some (.slice elem)) (hs : (P.info? elem).map (·.size) = some size)
    (hg : w.heap[g]? = some (.cells cur t (0, 0))) (hn : cs.length = Nat.min sLen dLen * size)
    (hsrc : ∀ j v, cs[j]? = some v → w.cell? (a.add j) = some v) (hfit : o + cs.length ≤ cur.size) (h1 : ∀ v ∈ cs, v.oneCell' = true) :
    (Builtin.copy_ #[dT, sT] ty #[.slice (some ⟨g, o, none⟩) dLen dCap, .slice (some a) sLen sCap]).run P w =
      .ok (goInt (Nat.min sLen dLen)) (w.setRow g (cur.toList.take o ++ cs ++ cur.toList.drop (o + cs.length)).toArray) := by
  have hl := run_loadCells_list (P := P) w a cs hsrc
  have hst := run_storeCells_at P g o t cs 0 cur w hg (by simpa using hfit) h1
  cases hq : P.info? elem with
  | none => simp [hq] at hs
  | some i =>
    have hi : i.size = size := by simpa [hq] using hs
    simp [Builtin.copy_, run_underlying hu, Builtin.lenOf, Builtin.firstCells, sizeOf, typeInfo, hq, hi, ← hn, hl, hst]
theorem wpList_copy_rows {P : Program} {w : World} {ops : Array Oper} {rest : List Oper} {o : Oper} {a : Act} {Q : Exit → Act → World → Prop} (hgd : o.guard = none) (d s : Operand) (dT sT : TypeId)
    (ho : o.op = .call { callee := .builtin .copy, args := #[d, s], argTypes := #[dT, sT] }) (elem : TypeId) (hu : P.underlying dT = some (.slice elem)) (size : Nat) (hsz : (P.info? elem).map (·.size) = some size)
    (g dLen dCap : Nat) (ad : Addr) (sLen sCap : Nat) (hd : a.eval d = .slice (some ⟨g, 0, none⟩) dLen dCap) (hs : a.eval s = .slice (some ad) sLen sCap)
    (cur : Array Value) (t : TypeId) (hg : w.heap[g]? = some (.cells cur t (0, 0))) (cs : List Value) (hn : cs.length = Nat.min sLen dLen * size)
    (hsrc : ∀ j v, cs[j]? = some v → w.cell? (ad.add j) = some v) (hfit : cs.length = cur.size) (h1 : ∀ v ∈ cs, v.oneCell' = true)
    (h : wpList P ops Q rest (a.put o.dst (goInt (Nat.min sLen dLen))) (w.setRow g cs.toArray)) : wpList P ops Q (o :: rest) a w := by
  refine wpList_plain hgd fun K hK => ?_
  have hrun := run_copy_rows (P := P) w dT sT o.type elem g 0 dLen dCap ad sLen sCap size cur t cs hu hsz hg hn hsrc (by omega) h1
  have e : (cur.toList.take 0 ++ cs ++ cur.toList.drop (0 + cs.length)).toArray = cs.toArray := by
    rw [List.take_zero, List.nil_append, Nat.zero_add, hfit, List.drop_of_length_le (by simp), List.append_nil]
  rw [e] at hrun
  unfold Oper.wp
  simp [execOp, ho, resolve, invoke, builtin, hd, hs, hrun, Result.andThen]
  exact hK _ _ h
theorem rc_info : (Tryd.prog.info? 26).map (fun i => (i.zero, i.size, i.bytes)) = some (some (.agg z19), 19, 44) := by kernel_rfl
theorem run_make_sub (a b : Nat) (W : World) (h : a ≤ b) (h2 : b ≤ 400) :
    (Instr.makeSlice 38 (.int .i64 ((b : Int) - (a : Int) + 1)) (.int .i64 ((b : Int) - (a : Int) + 1))).run Tryd.prog W = .ok (.slice (some ⟨W.heap.size, 0, none⟩) (b - a + 1) (b - a + 1)) (W.alloc (.cells (madeCells z19 ((b - a + 1) * 19)) 26)) := by
  obtain ⟨i, hi0, hz0, hz1, hz2⟩ := info_parts rc_info
  have hr := run_make (P := Tryd.prog) W 38 26 i (.agg z19) Tryd.underlying38 hi0 hz0 .i64 .i64 ((b : Int) - (a : Int) + 1) ((b : Int) - (a : Int) + 1) (by omega) (by omega) (by rw [hz2]; omega) (by omega)
  rw [hz1, show ((b : Int) - (a : Int) + 1).toNat = b - a + 1 by omega] at hr
  exact hr
/-- the first and the last of the records that a table wants -/
structure SqT (l : List Rc) (a b : Nat) : Prop where
  le : a ≤ b
  lt : b < l.length
  a0 : ∀ j, j ≤ a → ra_ l j = ra_ l 0
  b0 : ∀ j, b ≤ j → j < l.length → ra_ l j = ra_ l (l.length - 1)
  one : a = b → b = 0
  a1 : a ≠ b → ra_ l (a + 1) ≠ ra_ l 0
  b1 : a ≠ b → ra_ l (b - 1) ≠ ra_ l (l.length - 1)
abbrev sub (l : List Rc) (a b : Nat) : List Rc := (l.drop a).take (b - a + 1)
theorem sub_len {l : List Rc} {a b : Nat} (h1 : a ≤ b) (h2 : b < l.length) : (sub l a b).length = b - a + 1 := by unfold sub; rw [List.length_take, List.length_drop]; omega
theorem sub_at {l : List Rc} {a b k : Nat} (h2 : k ≤ b - a) : ra_ (sub l a b) k = ra_ l (a + k) := by
  show (sub l a b).getD k Rc.nil = l.getD (a + k) Rc.nil
  unfold sub
  rw [List.getD_eq_getElem?_getD, List.getD_eq_getElem?_getD, List.getElem?_take_of_lt (by omega), List.getElem?_drop]
theorem sub_recs {w : World} {B n : Nat} {ad : Addr} {l : List Rc} {a b : Nat} (h : Recs w B (some ad) n l) (h1 : a ≤ b) (h2 : b < l.length) :
    (∀ j v, (flat (sub l a b))[j]? = some v → w.cell? ((ad.add (a * 19)).add j) = some v) ∧ (∀ r ∈ sub l a b, r.Bd) := by
  have hln := h.1
  refine ⟨fun j v hv => ?_, fun r hr => h.2.2 r (List.mem_of_mem_drop (List.mem_of_mem_take hr))⟩
  have hj : j < (flat (sub l a b)).length := by
    rcases Nat.lt_or_ge j (flat (sub l a b)).length with g | g
    · exact g
    · rw [List.getElem?_eq_none g] at hv; cases hv
  rw [flat_len, sub_len h1 h2] at hj
  obtain ⟨ad', e, hr⟩ := h.row (k := a + j / 19) (by omega) (by omega)
  obtain rfl := Option.some.inj e
  have q1 := flat_at (sub l a b) (j / 19) (j % 19) (by rw [sub_len h1 h2]; omega) (Nat.mod_lt _ (by decide))
  have q2 : 19 * (j / 19) + j % 19 = j := by omega
  rw [q2] at q1
  rw [q1] at hv
  have q3 : (sub l a b)[j / 19]'(by rw [sub_len h1 h2]; omega) = l[a + j / 19]'(by omega) := by
    rw [ra_eq, ra_eq]; exact sub_at (by omega)
  rw [q3] at hv
  have := hr.2 (j % 19) v hv
  rw [add_of_add] at this ⊢
  rw [← this]; congr 2; omega
theorem flat_one (l : List Rc) : ∀ u ∈ flat l, u.oneCell' = true := by
  induction l with
  | nil => intro u hu; cases hu
  | cons r t ih =>
    intro u hu
    have hu' : u ∈ r.A.toList ++ flat t := hu
    rcases List.mem_append.1 hu' with h | h
    · have hall : r.A.all (·.oneCell') = true := by kernel_rfl
      exact (Array.all_eq_true_iff_forall_mem.1 hall) u (by simpa using h)
    · exact ih u h
theorem recs_blk {w : World} {g m : Nat} {t : TypeId} {l : List Rc} (x : Blk w g t (flat l).toArray) (hm : l.length = m) (hb : ∀ r ∈ l, r.Bd) : Recs w w.heap.size (some ⟨g, 0, none⟩) m l := by
  refine ⟨hm, ⟨by rw [flat_len, hm], fun _ => ⟨_, rfl, x.lt, fun j u hu => ?_⟩⟩, hb⟩
  have e : (⟨g, 0, none⟩ : Addr).add j = ⟨g, j, none⟩ := by unfold Addr.add; split <;> simp_all
  rw [e, x.cell]
  simpa using hu
theorem eql_rcc (a b : Rc) : (binOp .eql 26 (.agg a.A) (.agg b.A)).run Tryd.prog = fun w => .ok (.bool (eqRc a b)) w := funext fun w => eq_rc a.b a.c a.d b.b b.c b.d a.p a.q b.p b.q w
attribute [local go_sem ↓] ldR_sem
attribute [local go_sem] ldSem_run
theorem sq_mk {w W : World} {P : Int} {ad : Addr} {A2 : Option Addr} {e c n2 c2 : Nat} {l : List Rc} {X Y : Rc} (i j : Nat) {p1 p2 : Addr} (hR : Recs w w.heap.size (some ad) (e + 1) l) (hb : Below w.heap.size w W) (x : Blk W w.heap.size 75 #[.int .i64 P, .slice (some ad) (e + 1) c, .slice A2 n2 c2]) (hi : i < e + 1) (hj : j < e + 1)
    (e1 : p1 = ad.add (i * 19)) (e2 : p2 = ad.add (j * 19)) (hX : RowKit.Hid (ra_ l i = X)) (hY : RowKit.Hid (ra_ l j = Y)) :
    (fun w' => w'.cell? ⟨w.heap.size, 1, none⟩ = some (.slice (some ad) (e + 1) c) ∧ ldT 26 (.pointer (some (p1))) w' = some X.A ∧ ldT 26 (.pointer (some (p2))) w' = some Y.A) W := by
  have hl := hR.1
  obtain ⟨ad', q, r⟩ := (hR.below hb).row hi (by omega)
  obtain rfl := Option.some.inj q
  obtain ⟨ad', q, r2⟩ := (hR.below hb).row hj (by omega)
  obtain rfl := Option.some.inj q
  rw [ra_eq (by omega)] at r r2
  rw [hX.out] at r
  rw [hY.out] at r2
  subst e1; subst e2
  exact ⟨x.cell 1, ld_row r (by kernel_rfl), ld_row r2 (by kernel_rfl)⟩
theorem add_00 (p : Addr) : p = p.add (0 * 19) := by cases p; unfold Addr.add; split <;> simp_all
set_option maxRecDepth 100000 in
set_option maxHeartbeats 12800000 in
attribute [-go_sem] run_eql_struct run_neq_struct in
theorem qtable_any (P : Int) (A A2 : Option Addr) (n c n2 c2 : Nat) (l : List Rc) (q : List Int) (w : World) (hT : Tab w) (hp : PlanR w w.heap.size P A A2 n n2 l q) (hnc : n ≤ c) :
    Calls Tryd.prog 54 #[plV P A A2 n c n2 c2] w fun r w' => ((plE P l q = 2 ∧ r = .returned (.tuple #[tbV 0 0 none 0 0, .int .i64 2])) ∨ (plE P l q = 0 ∧ ∃ (a b g : Nat), SqT l a b ∧ Recs w' w'.heap.size (some ⟨g, 0, none⟩) (b - a + 1) (sub l a b) ∧ r = .returned (.tuple #[tbV (P + a) (P + b) (some ⟨g, 0, none⟩) (b - a + 1) (b - a + 1), .int .i64 0]))) ∧ Below w.heap.size w w' := by
  have i0 := Inv.start hT
  have i1 := (i0.alloc (.cells #[.int .i64 P, .slice A n c, .slice A2 n2 c2] 75)).alloc (.cells #[.int .i64 0, .int .i64 0, .slice none 0 0] 40)
  have x1 := (Blk.new w 75 #[.int .i64 P, .slice A n c, .slice A2 n2 c2]).alloc (.cells #[.int .i64 0, .int .i64 0, .slice none 0 0] 40)
  have z1 := blk_at (w.alloc (.cells #[.int .i64 P, .slice A n c, .slice A2 n2 c2] 75)) 40 #[.int .i64 0, .int .i64 0, .slice none 0 0] (sz1 w _ rfl)
  obtain ⟨hl, hq⟩ := hp.len
  have hpp := hp.p; have hm := hp.m; have hm2 := hp.m2
  unfold maxLen at hm hm2
  have hck := fun W (iv : Inv w W) => check_any P A A2 n c n2 c2 l q W iv.1 ((hp.below iv.2).more iv.2.size)
  have h02 : plE P l q = 2 ∨ (plE P l q = 0 ∧ 1601 ≤ P ∧ 1 ≤ l.length ∧ l.length ≤ 400 ∧ q.length = l.length ∧ P ≤ 10000 - (l.length : Int)) := by
    unfold plE
    cases e : plOk P l q with
    | false => left; rfl
    | true => right; exact ⟨rfl, (pl_iff.1 e).1⟩
  rcases h02 with h0 | ⟨h0, k1, k2, k3, k4, k5⟩
  · rw [h0] at hck
    have H0 := Lib.hid h0
    clear h0
    go_enter Tryd.func54, Tryd.ntmps54
    go_wp2_with (refine wpList_row_g rfl 75 _ rfl _ rfl _ _ _ _ x1 Tryd.underlying75 rfl (by kernel_rfl) ?_)
    refine (hck _ i1).mono ?_; rintro e w2 ⟨rfl, hb2⟩
    have i2 := i1.call hb2
    have z2 := z1.below hb2 z1.lt
    clear i1 x1 z1 hb2
    go_wp2_with (refine wpList_store_g rfl 40 _ _ rfl rfl _ 0 #[.int .i64 0, .int .i64 0, .slice none 0 0] #[.int .i64 0, .int .i64 0, .slice none 0 0] rfl rfl _ _ z2 (by show 0 + 3 ≤ 3; decide) (by kernel_rfl) (by kernel_rfl) (by kernel_rfl) ?_)
    exact bodyPost_ret (res_ct rfl _ _ _ _ _ _ _ rfl rfl (Blk.row z2 _) Tryd.underlying40 rfl (by kernel_rfl)) rfl ⟨.inl ⟨H0.out, rfl⟩, below_row i2.2 (Nat.le_add_right _ 1) _⟩
  · rw [h0] at hck
    have H0 := Lib.hid h0
    clear h0
    obtain ⟨e, rfl⟩ : ∃ e, n = e + 1 := ⟨n - 1, by omega⟩
    obtain ⟨ad, rfl, -⟩ := hp.r.row (k := 0) (by omega) (by omega)
    have hR := hp.r
    go_enter Tryd.func54, Tryd.ntmps54
    go_wp2_with (refine wpList_row_g rfl 75 _ rfl _ rfl _ _ _ _ x1 Tryd.underlying75 rfl (by kernel_rfl) ?_)
    refine (hck _ i1).mono ?_; rintro r0 w2 ⟨rfl, hb2⟩
    have i2 := i1.call hb2
    have x2 := x1.below hb2 x1.lt
    have z2 := z1.below hb2 z1.lt
    have b2 := i2.2
    have d1 : w2.cell? ⟨w.heap.size, 1, none⟩ = some (.slice (some ad) (e + 1) c) := x2.cell 1
    clear i1 x1 z1 hb2 hck
    go_upto_block 0 with fail
    go_cut [6] (fun (v1 : Value) (wx : World) => ∃ a : Nat, v1 = .int .i64 a ∧ a ≤ e ∧ (∀ j, j ≤ a → ra_ l j = ra_ l 0) ∧ (a = e ∨ ra_ l (a + 1) ≠ ra_ l 0) ∧ Blk wx w.heap.size 75 #[.int .i64 P, .slice (some ad) (e + 1) c, .slice A2 n2 c2] ∧ Blk wx (w.heap.size + 1) 40 #[.int .i64 0, .int .i64 0, .slice none 0 0] ∧ Below w.heap.size w wx)
    case first =>
      go_wp2_with fail
      go_loopw [6] (fun i wr => ∃ k : Nat, i = .int .i64 k ∧ k ≤ e ∧ (∀ j, j ≤ k → ra_ l j = ra_ l 0) ∧ Blk wr w.heap.size 75 #[.int .i64 P, .slice (some ad) (e + 1) c, .slice A2 n2 c2] ∧ Blk wr (w.heap.size + 1) 40 #[.int .i64 0, .int .i64 0, .slice none 0 0] ∧ Below w.heap.size w wr) (fun i _ => e - (intOf i).toNat)
      case atStart => exact ⟨0, rfl, Nat.zero_le _, fun j hj => by rw [Nat.le_zero.1 hj], x2, z2, b2⟩
      case round =>
        clear x2 z2 b2 d1 i2 i0
        obtain ⟨k, rfl, hk, hall, hx, hz, hb⟩ := hrel
        have HA := Lib.hid hall; clear hall
        go_upto_region 6 with fail
        by_cases hlt : k < e
        · have hlt' : decide ((k : Int) < (e : Int)) = true := by rw [decide_eq_true_iff]; omega
          have hw1 : IntKind.i64.wrap ((k : Int) + 1) = (k : Int) + 1 := by simp [IntKind.wrap, IntKind.bits, IntKind.signed]; omega
          have hi0 : (0 : Int) ≤ (k : Int) + 1 := by omega
          have hi1 : ((k : Int) + 1).toNat = k + 1 := by omega
          have hi2 : (k : Int) + 1 < (e : Int) + 1 := by omega
          have hi3 : (0 : Int) < (e : Int) + 1 := by omega
          obtain ⟨X, hX⟩ : ∃ X, ra_ l (k + 1) = X := ⟨_, rfl⟩
          obtain ⟨Y, hY⟩ : ∃ Y, ra_ l 0 = Y := ⟨_, rfl⟩
          have HX := Lib.hid hX; have HY := Lib.hid hY; clear hX hY
          have hqq := eql_rcc X Y
          cases he : eqRc X Y with
          | false =>
            rw [he] at hqq
            have NEQ := Lib.hid (show ra_ l (k + 1) ≠ ra_ l 0 from fun h => by rw [HX.out, HY.out] at h; rw [eqRc_iff.2 h] at he; cases he)
            clear he
            refine wp_region_held_drew (S := fun w' => w'.cell? ⟨w.heap.size, 1, none⟩ = some (.slice (some ad) (e + 1) c) ∧ ldT 26 (.pointer (some (ad.add ((k + 1) * 19)))) w' = some X.A ∧ ldT 26 (.pointer (some (ad))) w' = some Y.A) (by kernel_rfl) (sq_mk (k + 1) 0 hR hb.drew hx (by omega) (by omega) rfl (add_00 _) HX HY) (fun hHeld => ?_)
            refine wpAnyH_take (i := 0) (oi := { dst := some 20, op := Op.move (Operand.tmp 6), type := 3, pos := "squeeze.go:17", after := #[], guard := none }) (v := ?_) rfl (by kernel_rfl) (by kernel_rfl) (by kernel_rfl) (fun _ _ _ h => h) (Or.inl ⟨by rfl, ?_⟩) hHeld ?_
            rotate_left
            · intro w hSw
              try dsimp only at hSw
              go_simp
              try with_reducible rfl
            try simp only [Act.put, List.setIfInBounds_toArray, List.set_cons_zero, List.set_cons_succ]
            refine wpAnyH_take (i := 1) (oi := { dst := some 21, op := Op.move (Operand.tmp 5), type := 3, pos := "squeeze.go:17", after := #[], guard := none }) (v := ?_) rfl (by kernel_rfl) (by kernel_rfl) (by kernel_rfl) (fun _ _ _ h => h) (Or.inl ⟨by rfl, ?_⟩) hHeld ?_
            rotate_left
            · intro w hSw
              try dsimp only at hSw
              go_simp
              try with_reducible rfl
            try simp only [Act.put, List.setIfInBounds_toArray, List.set_cons_zero, List.set_cons_succ]
            refine wpAnyH_take (i := 2) (oi := { dst := some 22, op := Op.binOp BinOp.lss 3 (Operand.tmp 20) (Operand.tmp 21) 3, type := 4, pos := "squeeze.go:17", after := #[{ on := 0, ground := Ground.data }, { on := 1, ground := Ground.data }], guard := none }) (v := ?_) rfl (by kernel_rfl) (by kernel_rfl) (by kernel_rfl) (fun _ _ _ h => h) (Or.inl ⟨by rfl, ?_⟩) hHeld ?_
            rotate_left
            · intro w hSw
              try dsimp only at hSw
              go_simp
              try with_reducible rfl
            try simp only [Act.put, List.setIfInBounds_toArray, List.set_cons_zero, List.set_cons_succ]
            refine wpAnyH_take (i := 3) (oi := { dst := some 23, op := Op.move (Operand.tmp 22), type := 4, pos := "squeeze.go:17", after := #[{ on := 2, ground := Ground.data }], guard := none }) (v := ?_) rfl (by kernel_rfl) (by kernel_rfl) (by kernel_rfl) (fun _ _ _ h => h) (Or.inl ⟨by rfl, ?_⟩) hHeld ?_
            rotate_left
            · intro w hSw
              try dsimp only at hSw
              go_simp
              try with_reducible rfl
            try simp only [Act.put, List.setIfInBounds_toArray, List.set_cons_zero, List.set_cons_succ]
            refine wpAnyH_take (i := 4) (oi := { dst := some 24, op := Op.fieldAddr 75 (Operand.tmp 1) 1, type := 0, pos := "squeeze.go:17", after := #[{ on := 3, ground := Ground.guard }], guard := some (3, true) }) (v := ?_) rfl (by kernel_rfl) (by kernel_rfl) (by kernel_rfl) (fun _ _ _ h => h) (Or.inl ⟨by rfl, ?_⟩) hHeld ?_
            rotate_left
            · intro w hSw
              try dsimp only at hSw
              go_simp
              try with_reducible rfl
            try simp only [Act.put, List.setIfInBounds_toArray, List.set_cons_zero, List.set_cons_succ]
            refine wpAnyH_take (i := 5) (oi := { dst := some 25, op := Op.load 38 (Operand.tmp 24), type := 38, pos := "squeeze.go:17", after := #[{ on := 4, ground := Ground.data }, { on := 3, ground := Ground.guard }], guard := some (3, true) }) (v := ?_) rfl (by kernel_rfl) (by kernel_rfl) (by kernel_rfl) (fun _ _ _ h => h) (Or.inl ⟨by rfl, ?_⟩) hHeld ?_
            rotate_left
            · intro w hSw
              try dsimp only at hSw
              go_simp
              try with_reducible rfl
            try simp only [Act.put, List.setIfInBounds_toArray, List.set_cons_zero, List.set_cons_succ]
            refine wpAnyH_take (i := 6) (oi := { dst := some 26, op := Op.move (Operand.tmp 6), type := 3, pos := "squeeze.go:17", after := #[{ on := 3, ground := Ground.guard }], guard := some (3, true) }) (v := ?_) rfl (by kernel_rfl) (by kernel_rfl) (by kernel_rfl) (fun _ _ _ h => h) (Or.inl ⟨by rfl, ?_⟩) hHeld ?_
            rotate_left
            · intro w hSw
              try dsimp only at hSw
              go_simp
              try with_reducible rfl
            try simp only [Act.put, List.setIfInBounds_toArray, List.set_cons_zero, List.set_cons_succ]
            refine wpAnyH_take (i := 7) (oi := { dst := some 27, op := Op.binOp BinOp.add 3 (Operand.tmp 26) (Operand.const (Value.int IntKind.i64 1)) 3, type := 3, pos := "squeeze.go:17", after := #[{ on := 6, ground := Ground.data }, { on := 3, ground := Ground.guard }], guard := some (3, true) }) (v := ?_) rfl (by kernel_rfl) (by kernel_rfl) (by kernel_rfl) (fun _ _ _ h => h) (Or.inl ⟨by rfl, ?_⟩) hHeld ?_
            rotate_left
            · intro w hSw
              try dsimp only at hSw
              go_simp
              try with_reducible rfl
            try simp only [Act.put, List.setIfInBounds_toArray, List.set_cons_zero, List.set_cons_succ]
            refine wpAnyH_take (i := 8) (oi := { dst := some 28, op := Op.indexAddr 38 (Operand.tmp 25) (Operand.tmp 27), type := 0, pos := "squeeze.go:17", after := #[{ on := 5, ground := Ground.data }, { on := 7, ground := Ground.data }, { on := 3, ground := Ground.guard }], guard := some (3, true) }) (v := ?_) rfl (by kernel_rfl) (by kernel_rfl) (by kernel_rfl) (fun _ _ _ h => h) (Or.inl ⟨by rfl, ?_⟩) hHeld ?_
            rotate_left
            · intro w hSw
              try dsimp only at hSw
              go_simp
              try with_reducible rfl
            try simp only [Act.put, List.setIfInBounds_toArray, List.set_cons_zero, List.set_cons_succ]
            refine wpAnyH_take (i := 9) (oi := { dst := some 29, op := Op.load 26 (Operand.tmp 28), type := 26, pos := "squeeze.go:17", after := #[{ on := 8, ground := Ground.data }, { on := 3, ground := Ground.guard }], guard := some (3, true) }) (v := ?_) rfl (by kernel_rfl) (by kernel_rfl) (by kernel_rfl) (fun _ _ _ h => h) (Or.inl ⟨by rfl, ?_⟩) hHeld ?_
            rotate_left
            · intro w hSw
              try dsimp only at hSw
              go_simp
              try with_reducible rfl
            try simp only [Act.put, List.setIfInBounds_toArray, List.set_cons_zero, List.set_cons_succ]
            refine wpAnyH_take (i := 10) (oi := { dst := some 30, op := Op.fieldAddr 75 (Operand.tmp 1) 1, type := 0, pos := "squeeze.go:17", after := #[{ on := 3, ground := Ground.guard }], guard := some (3, true) }) (v := ?_) rfl (by kernel_rfl) (by kernel_rfl) (by kernel_rfl) (fun _ _ _ h => h) (Or.inl ⟨by rfl, ?_⟩) hHeld ?_
            rotate_left
            · intro w hSw
              try dsimp only at hSw
              go_simp
              try with_reducible rfl
            try simp only [Act.put, List.setIfInBounds_toArray, List.set_cons_zero, List.set_cons_succ]
            refine wpAnyH_take (i := 11) (oi := { dst := some 31, op := Op.load 38 (Operand.tmp 30), type := 38, pos := "squeeze.go:17", after := #[{ on := 10, ground := Ground.data }, { on := 3, ground := Ground.guard }], guard := some (3, true) }) (v := ?_) rfl (by kernel_rfl) (by kernel_rfl) (by kernel_rfl) (fun _ _ _ h => h) (Or.inl ⟨by rfl, ?_⟩) hHeld ?_
            rotate_left
            · intro w hSw
              try dsimp only at hSw
              go_simp
              try with_reducible rfl
            try simp only [Act.put, List.setIfInBounds_toArray, List.set_cons_zero, List.set_cons_succ]
            refine wpAnyH_take (i := 12) (oi := { dst := some 32, op := Op.indexAddr 38 (Operand.tmp 31) (Operand.const (Value.int IntKind.i64 0)), type := 0, pos := "squeeze.go:17", after := #[{ on := 11, ground := Ground.data }, { on := 3, ground := Ground.guard }], guard := some (3, true) }) (v := ?_) rfl (by kernel_rfl) (by kernel_rfl) (by kernel_rfl) (fun _ _ _ h => h) (Or.inl ⟨by rfl, ?_⟩) hHeld ?_
            rotate_left
            · intro w hSw
              try dsimp only at hSw
              go_simp
              try with_reducible rfl
            try simp only [Act.put, List.setIfInBounds_toArray, List.set_cons_zero, List.set_cons_succ]
            refine wpAnyH_take (i := 13) (oi := { dst := some 33, op := Op.load 26 (Operand.tmp 32), type := 26, pos := "squeeze.go:17", after := #[{ on := 12, ground := Ground.data }, { on := 3, ground := Ground.guard }], guard := some (3, true) }) (v := ?_) rfl (by kernel_rfl) (by kernel_rfl) (by kernel_rfl) (fun _ _ _ h => h) (Or.inl ⟨by rfl, ?_⟩) hHeld ?_
            rotate_left
            · intro w hSw
              try dsimp only at hSw
              go_simp
              try with_reducible rfl
            try simp only [Act.put, List.setIfInBounds_toArray, List.set_cons_zero, List.set_cons_succ]
            refine wpAnyH_take (i := 14) (oi := { dst := some 34, op := Op.binOp BinOp.eql 26 (Operand.tmp 29) (Operand.tmp 33) 26, type := 4, pos := "squeeze.go:17", after := #[{ on := 9, ground := Ground.data }, { on := 13, ground := Ground.data }, { on := 3, ground := Ground.guard }], guard := some (3, true) }) (v := ?_) rfl (by kernel_rfl) (by kernel_rfl) (by kernel_rfl) (fun _ _ _ h => h) (Or.inl ⟨by rfl, ?_⟩) hHeld ?_
            rotate_left
            · intro w hSw
              try dsimp only at hSw
              go_simp
              try with_reducible rfl
            try simp only [Act.put, List.setIfInBounds_toArray, List.set_cons_zero, List.set_cons_succ]
            refine wpAnyH_take (i := 15) (oi := { dst := some 35, op := Op.pick (Operand.tmp 23) (Operand.tmp 34) (Operand.const (Value.bool false)), type := 4, pos := "squeeze.go:17", after := #[{ on := 3, ground := Ground.data }, { on := 14, ground := Ground.data }], guard := none }) (v := ?_) rfl (by kernel_rfl) (by kernel_rfl) (by kernel_rfl) (fun _ _ _ h => h) (Or.inl ⟨by rfl, ?_⟩) hHeld ?_
            rotate_left
            · intro w hSw
              try dsimp only at hSw
              go_simp
              try with_reducible rfl
            try simp only [Act.put, List.setIfInBounds_toArray, List.set_cons_zero, List.set_cons_succ]
            refine wpAnyH_done (by kernel_rfl) ?_ _
            clear hHeld
            go_wp2_with fail
            go_meet
            exact ⟨k, rfl, by omega, HA.out, .inr (NEQ.out), hx.drew, hz.drew, hb.drew⟩
          | true =>
            rw [he] at hqq
            have HN := Lib.hid (show ∀ j, j ≤ k + 1 → ra_ l j = ra_ l 0 from fun j hj => by
              by_cases h : j = k + 1
              · subst h; rw [HX.out, HY.out]; exact eqRc_iff.1 he
              · exact HA.out j (by omega))
            clear he
            refine wp_region_held_drew (S := fun w' => w'.cell? ⟨w.heap.size, 1, none⟩ = some (.slice (some ad) (e + 1) c) ∧ ldT 26 (.pointer (some (ad.add ((k + 1) * 19)))) w' = some X.A ∧ ldT 26 (.pointer (some (ad))) w' = some Y.A) (by kernel_rfl) (sq_mk (k + 1) 0 hR hb.drew hx (by omega) (by omega) rfl (add_00 _) HX HY) (fun hHeld => ?_)
            refine wpAnyH_take (i := 0) (oi := { dst := some 20, op := Op.move (Operand.tmp 6), type := 3, pos := "squeeze.go:17", after := #[], guard := none }) (v := ?_) rfl (by kernel_rfl) (by kernel_rfl) (by kernel_rfl) (fun _ _ _ h => h) (Or.inl ⟨by rfl, ?_⟩) hHeld ?_
            rotate_left
            · intro w hSw
              try dsimp only at hSw
              go_simp
              try with_reducible rfl
            try simp only [Act.put, List.setIfInBounds_toArray, List.set_cons_zero, List.set_cons_succ]
            refine wpAnyH_take (i := 1) (oi := { dst := some 21, op := Op.move (Operand.tmp 5), type := 3, pos := "squeeze.go:17", after := #[], guard := none }) (v := ?_) rfl (by kernel_rfl) (by kernel_rfl) (by kernel_rfl) (fun _ _ _ h => h) (Or.inl ⟨by rfl, ?_⟩) hHeld ?_
            rotate_left
            · intro w hSw
              try dsimp only at hSw
              go_simp
              try with_reducible rfl
            try simp only [Act.put, List.setIfInBounds_toArray, List.set_cons_zero, List.set_cons_succ]
            refine wpAnyH_take (i := 2) (oi := { dst := some 22, op := Op.binOp BinOp.lss 3 (Operand.tmp 20) (Operand.tmp 21) 3, type := 4, pos := "squeeze.go:17", after := #[{ on := 0, ground := Ground.data }, { on := 1, ground := Ground.data }], guard := none }) (v := ?_) rfl (by kernel_rfl) (by kernel_rfl) (by kernel_rfl) (fun _ _ _ h => h) (Or.inl ⟨by rfl, ?_⟩) hHeld ?_
            rotate_left
            · intro w hSw
              try dsimp only at hSw
              go_simp
              try with_reducible rfl
            try simp only [Act.put, List.setIfInBounds_toArray, List.set_cons_zero, List.set_cons_succ]
            refine wpAnyH_take (i := 3) (oi := { dst := some 23, op := Op.move (Operand.tmp 22), type := 4, pos := "squeeze.go:17", after := #[{ on := 2, ground := Ground.data }], guard := none }) (v := ?_) rfl (by kernel_rfl) (by kernel_rfl) (by kernel_rfl) (fun _ _ _ h => h) (Or.inl ⟨by rfl, ?_⟩) hHeld ?_
            rotate_left
            · intro w hSw
              try dsimp only at hSw
              go_simp
              try with_reducible rfl
            try simp only [Act.put, List.setIfInBounds_toArray, List.set_cons_zero, List.set_cons_succ]
            refine wpAnyH_take (i := 4) (oi := { dst := some 24, op := Op.fieldAddr 75 (Operand.tmp 1) 1, type := 0, pos := "squeeze.go:17", after := #[{ on := 3, ground := Ground.guard }], guard := some (3, true) }) (v := ?_) rfl (by kernel_rfl) (by kernel_rfl) (by kernel_rfl) (fun _ _ _ h => h) (Or.inl ⟨by rfl, ?_⟩) hHeld ?_
            rotate_left
            · intro w hSw
              try dsimp only at hSw
              go_simp
              try with_reducible rfl
            try simp only [Act.put, List.setIfInBounds_toArray, List.set_cons_zero, List.set_cons_succ]
            refine wpAnyH_take (i := 5) (oi := { dst := some 25, op := Op.load 38 (Operand.tmp 24), type := 38, pos := "squeeze.go:17", after := #[{ on := 4, ground := Ground.data }, { on := 3, ground := Ground.guard }], guard := some (3, true) }) (v := ?_) rfl (by kernel_rfl) (by kernel_rfl) (by kernel_rfl) (fun _ _ _ h => h) (Or.inl ⟨by rfl, ?_⟩) hHeld ?_
            rotate_left
            · intro w hSw
              try dsimp only at hSw
              go_simp
              try with_reducible rfl
            try simp only [Act.put, List.setIfInBounds_toArray, List.set_cons_zero, List.set_cons_succ]
            refine wpAnyH_take (i := 6) (oi := { dst := some 26, op := Op.move (Operand.tmp 6), type := 3, pos := "squeeze.go:17", after := #[{ on := 3, ground := Ground.guard }], guard := some (3, true) }) (v := ?_) rfl (by kernel_rfl) (by kernel_rfl) (by kernel_rfl) (fun _ _ _ h => h) (Or.inl ⟨by rfl, ?_⟩) hHeld ?_
            rotate_left
            · intro w hSw
              try dsimp only at hSw
              go_simp
              try with_reducible rfl
            try simp only [Act.put, List.setIfInBounds_toArray, List.set_cons_zero, List.set_cons_succ]
            refine wpAnyH_take (i := 7) (oi := { dst := some 27, op := Op.binOp BinOp.add 3 (Operand.tmp 26) (Operand.const (Value.int IntKind.i64 1)) 3, type := 3, pos := "squeeze.go:17", after := #[{ on := 6, ground := Ground.data }, { on := 3, ground := Ground.guard }], guard := some (3, true) }) (v := ?_) rfl (by kernel_rfl) (by kernel_rfl) (by kernel_rfl) (fun _ _ _ h => h) (Or.inl ⟨by rfl, ?_⟩) hHeld ?_
            rotate_left
            · intro w hSw
              try dsimp only at hSw
              go_simp
              try with_reducible rfl
            try simp only [Act.put, List.setIfInBounds_toArray, List.set_cons_zero, List.set_cons_succ]
            refine wpAnyH_take (i := 8) (oi := { dst := some 28, op := Op.indexAddr 38 (Operand.tmp 25) (Operand.tmp 27), type := 0, pos := "squeeze.go:17", after := #[{ on := 5, ground := Ground.data }, { on := 7, ground := Ground.data }, { on := 3, ground := Ground.guard }], guard := some (3, true) }) (v := ?_) rfl (by kernel_rfl) (by kernel_rfl) (by kernel_rfl) (fun _ _ _ h => h) (Or.inl ⟨by rfl, ?_⟩) hHeld ?_
            rotate_left
            · intro w hSw
              try dsimp only at hSw
              go_simp
              try with_reducible rfl
            try simp only [Act.put, List.setIfInBounds_toArray, List.set_cons_zero, List.set_cons_succ]
            refine wpAnyH_take (i := 9) (oi := { dst := some 29, op := Op.load 26 (Operand.tmp 28), type := 26, pos := "squeeze.go:17", after := #[{ on := 8, ground := Ground.data }, { on := 3, ground := Ground.guard }], guard := some (3, true) }) (v := ?_) rfl (by kernel_rfl) (by kernel_rfl) (by kernel_rfl) (fun _ _ _ h => h) (Or.inl ⟨by rfl, ?_⟩) hHeld ?_
            rotate_left
            · intro w hSw
              try dsimp only at hSw
              go_simp
              try with_reducible rfl
            try simp only [Act.put, List.setIfInBounds_toArray, List.set_cons_zero, List.set_cons_succ]
            refine wpAnyH_take (i := 10) (oi := { dst := some 30, op := Op.fieldAddr 75 (Operand.tmp 1) 1, type := 0, pos := "squeeze.go:17", after := #[{ on := 3, ground := Ground.guard }], guard := some (3, true) }) (v := ?_) rfl (by kernel_rfl) (by kernel_rfl) (by kernel_rfl) (fun _ _ _ h => h) (Or.inl ⟨by rfl, ?_⟩) hHeld ?_
            rotate_left
            · intro w hSw
              try dsimp only at hSw
              go_simp
              try with_reducible rfl
            try simp only [Act.put, List.setIfInBounds_toArray, List.set_cons_zero, List.set_cons_succ]
            refine wpAnyH_take (i := 11) (oi := { dst := some 31, op := Op.load 38 (Operand.tmp 30), type := 38, pos := "squeeze.go:17", after := #[{ on := 10, ground := Ground.data }, { on := 3, ground := Ground.guard }], guard := some (3, true) }) (v := ?_) rfl (by kernel_rfl) (by kernel_rfl) (by kernel_rfl) (fun _ _ _ h => h) (Or.inl ⟨by rfl, ?_⟩) hHeld ?_
            rotate_left
            · intro w hSw
              try dsimp only at hSw
              go_simp
              try with_reducible rfl
            try simp only [Act.put, List.setIfInBounds_toArray, List.set_cons_zero, List.set_cons_succ]
            refine wpAnyH_take (i := 12) (oi := { dst := some 32, op := Op.indexAddr 38 (Operand.tmp 31) (Operand.const (Value.int IntKind.i64 0)), type := 0, pos := "squeeze.go:17", after := #[{ on := 11, ground := Ground.data }, { on := 3, ground := Ground.guard }], guard := some (3, true) }) (v := ?_) rfl (by kernel_rfl) (by kernel_rfl) (by kernel_rfl) (fun _ _ _ h => h) (Or.inl ⟨by rfl, ?_⟩) hHeld ?_
            rotate_left
            · intro w hSw
              try dsimp only at hSw
              go_simp
              try with_reducible rfl
            try simp only [Act.put, List.setIfInBounds_toArray, List.set_cons_zero, List.set_cons_succ]
            refine wpAnyH_take (i := 13) (oi := { dst := some 33, op := Op.load 26 (Operand.tmp 32), type := 26, pos := "squeeze.go:17", after := #[{ on := 12, ground := Ground.data }, { on := 3, ground := Ground.guard }], guard := some (3, true) }) (v := ?_) rfl (by kernel_rfl) (by kernel_rfl) (by kernel_rfl) (fun _ _ _ h => h) (Or.inl ⟨by rfl, ?_⟩) hHeld ?_
            rotate_left
            · intro w hSw
              try dsimp only at hSw
              go_simp
              try with_reducible rfl
            try simp only [Act.put, List.setIfInBounds_toArray, List.set_cons_zero, List.set_cons_succ]
            refine wpAnyH_take (i := 14) (oi := { dst := some 34, op := Op.binOp BinOp.eql 26 (Operand.tmp 29) (Operand.tmp 33) 26, type := 4, pos := "squeeze.go:17", after := #[{ on := 9, ground := Ground.data }, { on := 13, ground := Ground.data }, { on := 3, ground := Ground.guard }], guard := some (3, true) }) (v := ?_) rfl (by kernel_rfl) (by kernel_rfl) (by kernel_rfl) (fun _ _ _ h => h) (Or.inl ⟨by rfl, ?_⟩) hHeld ?_
            rotate_left
            · intro w hSw
              try dsimp only at hSw
              go_simp
              try with_reducible rfl
            try simp only [Act.put, List.setIfInBounds_toArray, List.set_cons_zero, List.set_cons_succ]
            refine wpAnyH_take (i := 15) (oi := { dst := some 35, op := Op.pick (Operand.tmp 23) (Operand.tmp 34) (Operand.const (Value.bool false)), type := 4, pos := "squeeze.go:17", after := #[{ on := 3, ground := Ground.data }, { on := 14, ground := Ground.data }], guard := none }) (v := ?_) rfl (by kernel_rfl) (by kernel_rfl) (by kernel_rfl) (fun _ _ _ h => h) (Or.inl ⟨by rfl, ?_⟩) hHeld ?_
            rotate_left
            · intro w hSw
              try dsimp only at hSw
              go_simp
              try with_reducible rfl
            try simp only [Act.put, List.setIfInBounds_toArray, List.set_cons_zero, List.set_cons_succ]
            refine wpAnyH_done (by kernel_rfl) ?_ _
            clear hHeld
            go_wp2_with fail
            go_roundw
            case rel => exact ⟨k + 1, by go_num, by omega, HN.out, hx.drew, hz.drew, hb.drew⟩
            case measure => simp [intOf]; omega
        · obtain rfl : e = k := by omega
          have hlt' : decide ((e : Int) < (e : Int)) = false := by simp
          refine wp_region_held_drew (S := fun w' => w'.cell? ⟨w.heap.size, 1, none⟩ = some (.slice (some ad) (e + 1) c) ∧ ldT 26 (.pointer (some (ad.add (0 * 19)))) w' = some (ra_ l 0).A ∧ ldT 26 (.pointer (some (ad.add (0 * 19)))) w' = some (ra_ l 0).A) (by kernel_rfl) (sq_mk 0 0 hR hb.drew hx (by omega) (by omega) rfl rfl (Lib.hid rfl) (Lib.hid rfl)) (fun hHeld => ?_)
          refine wpAnyH_take (i := 0) (oi := { dst := some 20, op := Op.move (Operand.tmp 6), type := 3, pos := "squeeze.go:17", after := #[], guard := none }) (v := ?_) rfl (by kernel_rfl) (by kernel_rfl) (by kernel_rfl) (fun _ _ _ h => h) (Or.inl ⟨by rfl, ?_⟩) hHeld ?_
          rotate_left
          · intro w hSw
            try dsimp only at hSw
            go_simp
            try with_reducible rfl
          try simp only [Act.put, List.setIfInBounds_toArray, List.set_cons_zero, List.set_cons_succ]
          refine wpAnyH_take (i := 1) (oi := { dst := some 21, op := Op.move (Operand.tmp 5), type := 3, pos := "squeeze.go:17", after := #[], guard := none }) (v := ?_) rfl (by kernel_rfl) (by kernel_rfl) (by kernel_rfl) (fun _ _ _ h => h) (Or.inl ⟨by rfl, ?_⟩) hHeld ?_
          rotate_left
          · intro w hSw
            try dsimp only at hSw
            go_simp
            try with_reducible rfl
          try simp only [Act.put, List.setIfInBounds_toArray, List.set_cons_zero, List.set_cons_succ]
          refine wpAnyH_take (i := 2) (oi := { dst := some 22, op := Op.binOp BinOp.lss 3 (Operand.tmp 20) (Operand.tmp 21) 3, type := 4, pos := "squeeze.go:17", after := #[{ on := 0, ground := Ground.data }, { on := 1, ground := Ground.data }], guard := none }) (v := ?_) rfl (by kernel_rfl) (by kernel_rfl) (by kernel_rfl) (fun _ _ _ h => h) (Or.inl ⟨by rfl, ?_⟩) hHeld ?_
          rotate_left
          · intro w hSw
            try dsimp only at hSw
            go_simp
            try with_reducible rfl
          try simp only [Act.put, List.setIfInBounds_toArray, List.set_cons_zero, List.set_cons_succ]
          refine wpAnyH_take (i := 3) (oi := { dst := some 23, op := Op.move (Operand.tmp 22), type := 4, pos := "squeeze.go:17", after := #[{ on := 2, ground := Ground.data }], guard := none }) (v := ?_) rfl (by kernel_rfl) (by kernel_rfl) (by kernel_rfl) (fun _ _ _ h => h) (Or.inl ⟨by rfl, ?_⟩) hHeld ?_
          rotate_left
          · intro w hSw
            try dsimp only at hSw
            go_simp
            try with_reducible rfl
          try simp only [Act.put, List.setIfInBounds_toArray, List.set_cons_zero, List.set_cons_succ]
          refine wpAnyH_take (i := 4) (oi := { dst := some 24, op := Op.fieldAddr 75 (Operand.tmp 1) 1, type := 0, pos := "squeeze.go:17", after := #[{ on := 3, ground := Ground.guard }], guard := some (3, true) }) (v := undef) rfl (by kernel_rfl) (by kernel_rfl) (by kernel_rfl) (fun _ _ _ h => h) (Or.inr ⟨by rfl, rfl⟩) hHeld ?_
          try simp only [Act.put, List.setIfInBounds_toArray, List.set_cons_zero, List.set_cons_succ]
          refine wpAnyH_take (i := 5) (oi := { dst := some 25, op := Op.load 38 (Operand.tmp 24), type := 38, pos := "squeeze.go:17", after := #[{ on := 4, ground := Ground.data }, { on := 3, ground := Ground.guard }], guard := some (3, true) }) (v := undef) rfl (by kernel_rfl) (by kernel_rfl) (by kernel_rfl) (fun _ _ _ h => h) (Or.inr ⟨by rfl, rfl⟩) hHeld ?_
          try simp only [Act.put, List.setIfInBounds_toArray, List.set_cons_zero, List.set_cons_succ]
          refine wpAnyH_take (i := 6) (oi := { dst := some 26, op := Op.move (Operand.tmp 6), type := 3, pos := "squeeze.go:17", after := #[{ on := 3, ground := Ground.guard }], guard := some (3, true) }) (v := undef) rfl (by kernel_rfl) (by kernel_rfl) (by kernel_rfl) (fun _ _ _ h => h) (Or.inr ⟨by rfl, rfl⟩) hHeld ?_
          try simp only [Act.put, List.setIfInBounds_toArray, List.set_cons_zero, List.set_cons_succ]
          refine wpAnyH_take (i := 7) (oi := { dst := some 27, op := Op.binOp BinOp.add 3 (Operand.tmp 26) (Operand.const (Value.int IntKind.i64 1)) 3, type := 3, pos := "squeeze.go:17", after := #[{ on := 6, ground := Ground.data }, { on := 3, ground := Ground.guard }], guard := some (3, true) }) (v := undef) rfl (by kernel_rfl) (by kernel_rfl) (by kernel_rfl) (fun _ _ _ h => h) (Or.inr ⟨by rfl, rfl⟩) hHeld ?_
          try simp only [Act.put, List.setIfInBounds_toArray, List.set_cons_zero, List.set_cons_succ]
          refine wpAnyH_take (i := 8) (oi := { dst := some 28, op := Op.indexAddr 38 (Operand.tmp 25) (Operand.tmp 27), type := 0, pos := "squeeze.go:17", after := #[{ on := 5, ground := Ground.data }, { on := 7, ground := Ground.data }, { on := 3, ground := Ground.guard }], guard := some (3, true) }) (v := undef) rfl (by kernel_rfl) (by kernel_rfl) (by kernel_rfl) (fun _ _ _ h => h) (Or.inr ⟨by rfl, rfl⟩) hHeld ?_
          try simp only [Act.put, List.setIfInBounds_toArray, List.set_cons_zero, List.set_cons_succ]
          refine wpAnyH_take (i := 9) (oi := { dst := some 29, op := Op.load 26 (Operand.tmp 28), type := 26, pos := "squeeze.go:17", after := #[{ on := 8, ground := Ground.data }, { on := 3, ground := Ground.guard }], guard := some (3, true) }) (v := undef) rfl (by kernel_rfl) (by kernel_rfl) (by kernel_rfl) (fun _ _ _ h => h) (Or.inr ⟨by rfl, rfl⟩) hHeld ?_
          try simp only [Act.put, List.setIfInBounds_toArray, List.set_cons_zero, List.set_cons_succ]
          refine wpAnyH_take (i := 10) (oi := { dst := some 30, op := Op.fieldAddr 75 (Operand.tmp 1) 1, type := 0, pos := "squeeze.go:17", after := #[{ on := 3, ground := Ground.guard }], guard := some (3, true) }) (v := undef) rfl (by kernel_rfl) (by kernel_rfl) (by kernel_rfl) (fun _ _ _ h => h) (Or.inr ⟨by rfl, rfl⟩) hHeld ?_
          try simp only [Act.put, List.setIfInBounds_toArray, List.set_cons_zero, List.set_cons_succ]
          refine wpAnyH_take (i := 11) (oi := { dst := some 31, op := Op.load 38 (Operand.tmp 30), type := 38, pos := "squeeze.go:17", after := #[{ on := 10, ground := Ground.data }, { on := 3, ground := Ground.guard }], guard := some (3, true) }) (v := undef) rfl (by kernel_rfl) (by kernel_rfl) (by kernel_rfl) (fun _ _ _ h => h) (Or.inr ⟨by rfl, rfl⟩) hHeld ?_
          try simp only [Act.put, List.setIfInBounds_toArray, List.set_cons_zero, List.set_cons_succ]
          refine wpAnyH_take (i := 12) (oi := { dst := some 32, op := Op.indexAddr 38 (Operand.tmp 31) (Operand.const (Value.int IntKind.i64 0)), type := 0, pos := "squeeze.go:17", after := #[{ on := 11, ground := Ground.data }, { on := 3, ground := Ground.guard }], guard := some (3, true) }) (v := undef) rfl (by kernel_rfl) (by kernel_rfl) (by kernel_rfl) (fun _ _ _ h => h) (Or.inr ⟨by rfl, rfl⟩) hHeld ?_
          try simp only [Act.put, List.setIfInBounds_toArray, List.set_cons_zero, List.set_cons_succ]
          refine wpAnyH_take (i := 13) (oi := { dst := some 33, op := Op.load 26 (Operand.tmp 32), type := 26, pos := "squeeze.go:17", after := #[{ on := 12, ground := Ground.data }, { on := 3, ground := Ground.guard }], guard := some (3, true) }) (v := undef) rfl (by kernel_rfl) (by kernel_rfl) (by kernel_rfl) (fun _ _ _ h => h) (Or.inr ⟨by rfl, rfl⟩) hHeld ?_
          try simp only [Act.put, List.setIfInBounds_toArray, List.set_cons_zero, List.set_cons_succ]
          refine wpAnyH_take (i := 14) (oi := { dst := some 34, op := Op.binOp BinOp.eql 26 (Operand.tmp 29) (Operand.tmp 33) 26, type := 4, pos := "squeeze.go:17", after := #[{ on := 9, ground := Ground.data }, { on := 13, ground := Ground.data }, { on := 3, ground := Ground.guard }], guard := some (3, true) }) (v := undef) rfl (by kernel_rfl) (by kernel_rfl) (by kernel_rfl) (fun _ _ _ h => h) (Or.inr ⟨by rfl, rfl⟩) hHeld ?_
          try simp only [Act.put, List.setIfInBounds_toArray, List.set_cons_zero, List.set_cons_succ]
          refine wpAnyH_take (i := 15) (oi := { dst := some 35, op := Op.pick (Operand.tmp 23) (Operand.tmp 34) (Operand.const (Value.bool false)), type := 4, pos := "squeeze.go:17", after := #[{ on := 3, ground := Ground.data }, { on := 14, ground := Ground.data }], guard := none }) (v := ?_) rfl (by kernel_rfl) (by kernel_rfl) (by kernel_rfl) (fun _ _ _ h => h) (Or.inl ⟨by rfl, ?_⟩) hHeld ?_
          rotate_left
          · intro w hSw
            try dsimp only at hSw
            go_simp
            try with_reducible rfl
          try simp only [Act.put, List.setIfInBounds_toArray, List.set_cons_zero, List.set_cons_succ]
          refine wpAnyH_done (by kernel_rfl) ?_ _
          clear hHeld
          go_wp2_with fail
          go_meet
          exact ⟨e, rfl, by omega, HA.out, .inl rfl, hx.drew, hz.drew, hb.drew⟩
    case rest =>
    clear x2 z2 b2 d1
    obtain ⟨a, rfl, ha, hall, hend, x2, z2, b2⟩ := hcut
    have HA1 := Lib.hid hall; have HE1 := Lib.hid hend
    clear hall hend
    obtain ⟨w3, rfl⟩ : ∃ V : World, V = wc := ⟨_, rfl⟩
    go_upto_block 2 with fail
    go_cut [7] (fun (v2 : Value) (wx : World) => ∃ b : Nat, v2 = .int .i64 b ∧ b ≤ e ∧ (∀ j, b ≤ j → j < e + 1 → ra_ l j = ra_ l e) ∧ (b = 0 ∨ ra_ l (b - 1) ≠ ra_ l e) ∧ Blk wx w.heap.size 75 #[.int .i64 P, .slice (some ad) (e + 1) c, .slice A2 n2 c2] ∧ Blk wx (w.heap.size + 1) 40 #[.int .i64 0, .int .i64 0, .slice none 0 0] ∧ Below w.heap.size w wx)
    case first =>
      go_wp2_with fail
      go_loopw [7] (fun i wr => ∃ b : Nat, i = .int .i64 b ∧ b ≤ e ∧ (∀ j, b ≤ j → j < e + 1 → ra_ l j = ra_ l e) ∧ Blk wr w.heap.size 75 #[.int .i64 P, .slice (some ad) (e + 1) c, .slice A2 n2 c2] ∧ Blk wr (w.heap.size + 1) 40 #[.int .i64 0, .int .i64 0, .slice none 0 0] ∧ Below w.heap.size w wr) (fun i _ => (intOf i).toNat)
      case atStart => exact ⟨e, rfl, Nat.le_refl _, fun j h1 h2 => by rw [show j = e by omega], x2, z2, b2⟩
      case round =>
        clear x2 z2 b2 i2 i0
        obtain ⟨b, rfl, hk, hall, hx, hz, hb⟩ := hrel
        have HA := Lib.hid hall; clear hall
        go_upto_region 8 with fail
        by_cases hlt : 0 < b
        · obtain ⟨k, rfl⟩ : ∃ k, b = k + 1 := ⟨b - 1, by omega⟩
          have hlt' : decide ((0 : Int) < (k : Int) + 1) = true := by rw [decide_eq_true_iff]; omega
          have hw1 : IntKind.i64.wrap (k : Int) = (k : Int) := by simp [IntKind.wrap, IntKind.bits, IntKind.signed]; omega
          have hw2 : IntKind.i64.wrap ((k : Int) + 1 - 1) = (k : Int) := by simp [IntKind.wrap, IntKind.bits, IntKind.signed]; omega
          have hi0 : (0 : Int) ≤ (k : Int) := by omega
          have hi2 : (k : Int) < (e : Int) + 1 := by omega
          have hi3 : (e : Int) < (e : Int) + 1 := by omega
          obtain ⟨X, hX⟩ : ∃ X, ra_ l k = X := ⟨_, rfl⟩
          obtain ⟨Y, hY⟩ : ∃ Y, ra_ l e = Y := ⟨_, rfl⟩
          have HX := Lib.hid hX; have HY := Lib.hid hY; clear hX hY
          have hqq := eql_rcc X Y
          cases he : eqRc X Y with
          | false =>
            rw [he] at hqq
            have NEQ := Lib.hid (show ra_ l (k + 1 - 1) ≠ ra_ l e from fun h => by rw [show k + 1 - 1 = k by omega, HX.out, HY.out] at h; rw [eqRc_iff.2 h] at he; cases he)
            clear he
            refine wp_region_held_drew (S := fun w' => w'.cell? ⟨w.heap.size, 1, none⟩ = some (.slice (some ad) (e + 1) c) ∧ ldT 26 (.pointer (some (ad.add (k * 19)))) w' = some X.A ∧ ldT 26 (.pointer (some (ad.add (e * 19)))) w' = some Y.A) (by kernel_rfl) (sq_mk k e hR hb.drew hx (by omega) (by omega) rfl rfl HX HY) (fun hHeld => ?_)
            refine wpAnyH_take (i := 0) (oi := { dst := some 38, op := Op.move (Operand.tmp 7), type := 3, pos := "squeeze.go:20", after := #[], guard := none }) (v := ?_) rfl (by kernel_rfl) (by kernel_rfl) (by kernel_rfl) (fun _ _ _ h => h) (Or.inl ⟨by rfl, ?_⟩) hHeld ?_
            rotate_left
            · intro w hSw
              try dsimp only at hSw
              go_simp
              try with_reducible rfl
            try simp only [Act.put, List.setIfInBounds_toArray, List.set_cons_zero, List.set_cons_succ]
            refine wpAnyH_take (i := 1) (oi := { dst := some 39, op := Op.binOp BinOp.gtr 3 (Operand.tmp 38) (Operand.const (Value.int IntKind.i64 0)) 3, type := 4, pos := "squeeze.go:20", after := #[{ on := 0, ground := Ground.data }], guard := none }) (v := ?_) rfl (by kernel_rfl) (by kernel_rfl) (by kernel_rfl) (fun _ _ _ h => h) (Or.inl ⟨by rfl, ?_⟩) hHeld ?_
            rotate_left
            · intro w hSw
              try dsimp only at hSw
              go_simp
              try with_reducible rfl
            try simp only [Act.put, List.setIfInBounds_toArray, List.set_cons_zero, List.set_cons_succ]
            refine wpAnyH_take (i := 2) (oi := { dst := some 40, op := Op.move (Operand.tmp 39), type := 4, pos := "squeeze.go:20", after := #[{ on := 1, ground := Ground.data }], guard := none }) (v := ?_) rfl (by kernel_rfl) (by kernel_rfl) (by kernel_rfl) (fun _ _ _ h => h) (Or.inl ⟨by rfl, ?_⟩) hHeld ?_
            rotate_left
            · intro w hSw
              try dsimp only at hSw
              go_simp
              try with_reducible rfl
            try simp only [Act.put, List.setIfInBounds_toArray, List.set_cons_zero, List.set_cons_succ]
            refine wpAnyH_take (i := 3) (oi := { dst := some 41, op := Op.fieldAddr 75 (Operand.tmp 1) 1, type := 0, pos := "squeeze.go:20", after := #[{ on := 2, ground := Ground.guard }], guard := some (2, true) }) (v := ?_) rfl (by kernel_rfl) (by kernel_rfl) (by kernel_rfl) (fun _ _ _ h => h) (Or.inl ⟨by rfl, ?_⟩) hHeld ?_
            rotate_left
            · intro w hSw
              try dsimp only at hSw
              go_simp
              try with_reducible rfl
            try simp only [Act.put, List.setIfInBounds_toArray, List.set_cons_zero, List.set_cons_succ]
            refine wpAnyH_take (i := 4) (oi := { dst := some 42, op := Op.load 38 (Operand.tmp 41), type := 38, pos := "squeeze.go:20", after := #[{ on := 3, ground := Ground.data }, { on := 2, ground := Ground.guard }], guard := some (2, true) }) (v := ?_) rfl (by kernel_rfl) (by kernel_rfl) (by kernel_rfl) (fun _ _ _ h => h) (Or.inl ⟨by rfl, ?_⟩) hHeld ?_
            rotate_left
            · intro w hSw
              try dsimp only at hSw
              go_simp
              try with_reducible rfl
            try simp only [Act.put, List.setIfInBounds_toArray, List.set_cons_zero, List.set_cons_succ]
            refine wpAnyH_take (i := 5) (oi := { dst := some 43, op := Op.move (Operand.tmp 7), type := 3, pos := "squeeze.go:20", after := #[{ on := 2, ground := Ground.guard }], guard := some (2, true) }) (v := ?_) rfl (by kernel_rfl) (by kernel_rfl) (by kernel_rfl) (fun _ _ _ h => h) (Or.inl ⟨by rfl, ?_⟩) hHeld ?_
            rotate_left
            · intro w hSw
              try dsimp only at hSw
              go_simp
              try with_reducible rfl
            try simp only [Act.put, List.setIfInBounds_toArray, List.set_cons_zero, List.set_cons_succ]
            refine wpAnyH_take (i := 6) (oi := { dst := some 44, op := Op.binOp BinOp.sub 3 (Operand.tmp 43) (Operand.const (Value.int IntKind.i64 1)) 3, type := 3, pos := "squeeze.go:20", after := #[{ on := 5, ground := Ground.data }, { on := 2, ground := Ground.guard }], guard := some (2, true) }) (v := ?_) rfl (by kernel_rfl) (by kernel_rfl) (by kernel_rfl) (fun _ _ _ h => h) (Or.inl ⟨by rfl, ?_⟩) hHeld ?_
            rotate_left
            · intro w hSw
              try dsimp only at hSw
              go_simp
              try with_reducible rfl
            try simp only [Act.put, List.setIfInBounds_toArray, List.set_cons_zero, List.set_cons_succ]
            refine wpAnyH_take (i := 7) (oi := { dst := some 45, op := Op.indexAddr 38 (Operand.tmp 42) (Operand.tmp 44), type := 0, pos := "squeeze.go:20", after := #[{ on := 4, ground := Ground.data }, { on := 6, ground := Ground.data }, { on := 2, ground := Ground.guard }], guard := some (2, true) }) (v := ?_) rfl (by kernel_rfl) (by kernel_rfl) (by kernel_rfl) (fun _ _ _ h => h) (Or.inl ⟨by rfl, ?_⟩) hHeld ?_
            rotate_left
            · intro w hSw
              try dsimp only at hSw
              go_simp
              try with_reducible rfl
            try simp only [Act.put, List.setIfInBounds_toArray, List.set_cons_zero, List.set_cons_succ]
            refine wpAnyH_take (i := 8) (oi := { dst := some 46, op := Op.load 26 (Operand.tmp 45), type := 26, pos := "squeeze.go:20", after := #[{ on := 7, ground := Ground.data }, { on := 2, ground := Ground.guard }], guard := some (2, true) }) (v := ?_) rfl (by kernel_rfl) (by kernel_rfl) (by kernel_rfl) (fun _ _ _ h => h) (Or.inl ⟨by rfl, ?_⟩) hHeld ?_
            rotate_left
            · intro w hSw
              try dsimp only at hSw
              go_simp
              try with_reducible rfl
            try simp only [Act.put, List.setIfInBounds_toArray, List.set_cons_zero, List.set_cons_succ]
            refine wpAnyH_take (i := 9) (oi := { dst := some 47, op := Op.fieldAddr 75 (Operand.tmp 1) 1, type := 0, pos := "squeeze.go:20", after := #[{ on := 2, ground := Ground.guard }], guard := some (2, true) }) (v := ?_) rfl (by kernel_rfl) (by kernel_rfl) (by kernel_rfl) (fun _ _ _ h => h) (Or.inl ⟨by rfl, ?_⟩) hHeld ?_
            rotate_left
            · intro w hSw
              try dsimp only at hSw
              go_simp
              try with_reducible rfl
            try simp only [Act.put, List.setIfInBounds_toArray, List.set_cons_zero, List.set_cons_succ]
            refine wpAnyH_take (i := 10) (oi := { dst := some 48, op := Op.load 38 (Operand.tmp 47), type := 38, pos := "squeeze.go:20", after := #[{ on := 9, ground := Ground.data }, { on := 2, ground := Ground.guard }], guard := some (2, true) }) (v := ?_) rfl (by kernel_rfl) (by kernel_rfl) (by kernel_rfl) (fun _ _ _ h => h) (Or.inl ⟨by rfl, ?_⟩) hHeld ?_
            rotate_left
            · intro w hSw
              try dsimp only at hSw
              go_simp
              try with_reducible rfl
            try simp only [Act.put, List.setIfInBounds_toArray, List.set_cons_zero, List.set_cons_succ]
            refine wpAnyH_take (i := 11) (oi := { dst := some 49, op := Op.move (Operand.tmp 5), type := 3, pos := "squeeze.go:20", after := #[{ on := 2, ground := Ground.guard }], guard := some (2, true) }) (v := ?_) rfl (by kernel_rfl) (by kernel_rfl) (by kernel_rfl) (fun _ _ _ h => h) (Or.inl ⟨by rfl, ?_⟩) hHeld ?_
            rotate_left
            · intro w hSw
              try dsimp only at hSw
              go_simp
              try with_reducible rfl
            try simp only [Act.put, List.setIfInBounds_toArray, List.set_cons_zero, List.set_cons_succ]
            refine wpAnyH_take (i := 12) (oi := { dst := some 50, op := Op.indexAddr 38 (Operand.tmp 48) (Operand.tmp 49), type := 0, pos := "squeeze.go:20", after := #[{ on := 10, ground := Ground.data }, { on := 11, ground := Ground.data }, { on := 2, ground := Ground.guard }], guard := some (2, true) }) (v := ?_) rfl (by kernel_rfl) (by kernel_rfl) (by kernel_rfl) (fun _ _ _ h => h) (Or.inl ⟨by rfl, ?_⟩) hHeld ?_
            rotate_left
            · intro w hSw
              try dsimp only at hSw
              go_simp
              try with_reducible rfl
            try simp only [Act.put, List.setIfInBounds_toArray, List.set_cons_zero, List.set_cons_succ]
            refine wpAnyH_take (i := 13) (oi := { dst := some 51, op := Op.load 26 (Operand.tmp 50), type := 26, pos := "squeeze.go:20", after := #[{ on := 12, ground := Ground.data }, { on := 2, ground := Ground.guard }], guard := some (2, true) }) (v := ?_) rfl (by kernel_rfl) (by kernel_rfl) (by kernel_rfl) (fun _ _ _ h => h) (Or.inl ⟨by rfl, ?_⟩) hHeld ?_
            rotate_left
            · intro w hSw
              try dsimp only at hSw
              go_simp
              try with_reducible rfl
            try simp only [Act.put, List.setIfInBounds_toArray, List.set_cons_zero, List.set_cons_succ]
            refine wpAnyH_take (i := 14) (oi := { dst := some 52, op := Op.binOp BinOp.eql 26 (Operand.tmp 46) (Operand.tmp 51) 26, type := 4, pos := "squeeze.go:20", after := #[{ on := 8, ground := Ground.data }, { on := 13, ground := Ground.data }, { on := 2, ground := Ground.guard }], guard := some (2, true) }) (v := ?_) rfl (by kernel_rfl) (by kernel_rfl) (by kernel_rfl) (fun _ _ _ h => h) (Or.inl ⟨by rfl, ?_⟩) hHeld ?_
            rotate_left
            · intro w hSw
              try dsimp only at hSw
              go_simp
              try with_reducible rfl
            try simp only [Act.put, List.setIfInBounds_toArray, List.set_cons_zero, List.set_cons_succ]
            refine wpAnyH_take (i := 15) (oi := { dst := some 53, op := Op.pick (Operand.tmp 40) (Operand.tmp 52) (Operand.const (Value.bool false)), type := 4, pos := "squeeze.go:20", after := #[{ on := 2, ground := Ground.data }, { on := 14, ground := Ground.data }], guard := none }) (v := ?_) rfl (by kernel_rfl) (by kernel_rfl) (by kernel_rfl) (fun _ _ _ h => h) (Or.inl ⟨by rfl, ?_⟩) hHeld ?_
            rotate_left
            · intro w hSw
              try dsimp only at hSw
              go_simp
              try with_reducible rfl
            try simp only [Act.put, List.setIfInBounds_toArray, List.set_cons_zero, List.set_cons_succ]
            refine wpAnyH_done (by kernel_rfl) ?_ _
            clear hHeld
            go_wp2_with fail
            go_meet
            exact ⟨k + 1, by first | rfl | (push_cast; rfl), by omega, HA.out, .inr (NEQ.out), hx.drew, hz.drew, hb.drew⟩
          | true =>
            rw [he] at hqq
            have HN := Lib.hid (show ∀ j, k ≤ j → j < e + 1 → ra_ l j = ra_ l e from fun j hj h2 => by
              by_cases h : j = k
              · subst h; rw [HX.out, HY.out]; exact eqRc_iff.1 he
              · exact HA.out j (by omega) h2)
            clear he
            refine wp_region_held_drew (S := fun w' => w'.cell? ⟨w.heap.size, 1, none⟩ = some (.slice (some ad) (e + 1) c) ∧ ldT 26 (.pointer (some (ad.add (k * 19)))) w' = some X.A ∧ ldT 26 (.pointer (some (ad.add (e * 19)))) w' = some Y.A) (by kernel_rfl) (sq_mk k e hR hb.drew hx (by omega) (by omega) rfl rfl HX HY) (fun hHeld => ?_)
            refine wpAnyH_take (i := 0) (oi := { dst := some 38, op := Op.move (Operand.tmp 7), type := 3, pos := "squeeze.go:20", after := #[], guard := none }) (v := ?_) rfl (by kernel_rfl) (by kernel_rfl) (by kernel_rfl) (fun _ _ _ h => h) (Or.inl ⟨by rfl, ?_⟩) hHeld ?_
            rotate_left
            · intro w hSw
              try dsimp only at hSw
              go_simp
              try with_reducible rfl
            try simp only [Act.put, List.setIfInBounds_toArray, List.set_cons_zero, List.set_cons_succ]
            refine wpAnyH_take (i := 1) (oi := { dst := some 39, op := Op.binOp BinOp.gtr 3 (Operand.tmp 38) (Operand.const (Value.int IntKind.i64 0)) 3, type := 4, pos := "squeeze.go:20", after := #[{ on := 0, ground := Ground.data }], guard := none }) (v := ?_) rfl (by kernel_rfl) (by kernel_rfl) (by kernel_rfl) (fun _ _ _ h => h) (Or.inl ⟨by rfl, ?_⟩) hHeld ?_
            rotate_left
            · intro w hSw
              try dsimp only at hSw
              go_simp
              try with_reducible rfl
            try simp only [Act.put, List.setIfInBounds_toArray, List.set_cons_zero, List.set_cons_succ]
            refine wpAnyH_take (i := 2) (oi := { dst := some 40, op := Op.move (Operand.tmp 39), type := 4, pos := "squeeze.go:20", after := #[{ on := 1, ground := Ground.data }], guard := none }) (v := ?_) rfl (by kernel_rfl) (by kernel_rfl) (by kernel_rfl) (fun _ _ _ h => h) (Or.inl ⟨by rfl, ?_⟩) hHeld ?_
            rotate_left
            · intro w hSw
              try dsimp only at hSw
              go_simp
              try with_reducible rfl
            try simp only [Act.put, List.setIfInBounds_toArray, List.set_cons_zero, List.set_cons_succ]
            refine wpAnyH_take (i := 3) (oi := { dst := some 41, op := Op.fieldAddr 75 (Operand.tmp 1) 1, type := 0, pos := "squeeze.go:20", after := #[{ on := 2, ground := Ground.guard }], guard := some (2, true) }) (v := ?_) rfl (by kernel_rfl) (by kernel_rfl) (by kernel_rfl) (fun _ _ _ h => h) (Or.inl ⟨by rfl, ?_⟩) hHeld ?_
            rotate_left
            · intro w hSw
              try dsimp only at hSw
              go_simp
              try with_reducible rfl
            try simp only [Act.put, List.setIfInBounds_toArray, List.set_cons_zero, List.set_cons_succ]
            refine wpAnyH_take (i := 4) (oi := { dst := some 42, op := Op.load 38 (Operand.tmp 41), type := 38, pos := "squeeze.go:20", after := #[{ on := 3, ground := Ground.data }, { on := 2, ground := Ground.guard }], guard := some (2, true) }) (v := ?_) rfl (by kernel_rfl) (by kernel_rfl) (by kernel_rfl) (fun _ _ _ h => h) (Or.inl ⟨by rfl, ?_⟩) hHeld ?_
            rotate_left
            · intro w hSw
              try dsimp only at hSw
              go_simp
              try with_reducible rfl
            try simp only [Act.put, List.setIfInBounds_toArray, List.set_cons_zero, List.set_cons_succ]
            refine wpAnyH_take (i := 5) (oi := { dst := some 43, op := Op.move (Operand.tmp 7), type := 3, pos := "squeeze.go:20", after := #[{ on := 2, ground := Ground.guard }], guard := some (2, true) }) (v := ?_) rfl (by kernel_rfl) (by kernel_rfl) (by kernel_rfl) (fun _ _ _ h => h) (Or.inl ⟨by rfl, ?_⟩) hHeld ?_
            rotate_left
            · intro w hSw
              try dsimp only at hSw
              go_simp
              try with_reducible rfl
            try simp only [Act.put, List.setIfInBounds_toArray, List.set_cons_zero, List.set_cons_succ]
            refine wpAnyH_take (i := 6) (oi := { dst := some 44, op := Op.binOp BinOp.sub 3 (Operand.tmp 43) (Operand.const (Value.int IntKind.i64 1)) 3, type := 3, pos := "squeeze.go:20", after := #[{ on := 5, ground := Ground.data }, { on := 2, ground := Ground.guard }], guard := some (2, true) }) (v := ?_) rfl (by kernel_rfl) (by kernel_rfl) (by kernel_rfl) (fun _ _ _ h => h) (Or.inl ⟨by rfl, ?_⟩) hHeld ?_
            rotate_left
            · intro w hSw
              try dsimp only at hSw
              go_simp
              try with_reducible rfl
            try simp only [Act.put, List.setIfInBounds_toArray, List.set_cons_zero, List.set_cons_succ]
            refine wpAnyH_take (i := 7) (oi := { dst := some 45, op := Op.indexAddr 38 (Operand.tmp 42) (Operand.tmp 44), type := 0, pos := "squeeze.go:20", after := #[{ on := 4, ground := Ground.data }, { on := 6, ground := Ground.data }, { on := 2, ground := Ground.guard }], guard := some (2, true) }) (v := ?_) rfl (by kernel_rfl) (by kernel_rfl) (by kernel_rfl) (fun _ _ _ h => h) (Or.inl ⟨by rfl, ?_⟩) hHeld ?_
            rotate_left
            · intro w hSw
              try dsimp only at hSw
              go_simp
              try with_reducible rfl
            try simp only [Act.put, List.setIfInBounds_toArray, List.set_cons_zero, List.set_cons_succ]
            refine wpAnyH_take (i := 8) (oi := { dst := some 46, op := Op.load 26 (Operand.tmp 45), type := 26, pos := "squeeze.go:20", after := #[{ on := 7, ground := Ground.data }, { on := 2, ground := Ground.guard }], guard := some (2, true) }) (v := ?_) rfl (by kernel_rfl) (by kernel_rfl) (by kernel_rfl) (fun _ _ _ h => h) (Or.inl ⟨by rfl, ?_⟩) hHeld ?_
            rotate_left
            · intro w hSw
              try dsimp only at hSw
              go_simp
              try with_reducible rfl
            try simp only [Act.put, List.setIfInBounds_toArray, List.set_cons_zero, List.set_cons_succ]
            refine wpAnyH_take (i := 9) (oi := { dst := some 47, op := Op.fieldAddr 75 (Operand.tmp 1) 1, type := 0, pos := "squeeze.go:20", after := #[{ on := 2, ground := Ground.guard }], guard := some (2, true) }) (v := ?_) rfl (by kernel_rfl) (by kernel_rfl) (by kernel_rfl) (fun _ _ _ h => h) (Or.inl ⟨by rfl, ?_⟩) hHeld ?_
            rotate_left
            · intro w hSw
              try dsimp only at hSw
              go_simp
              try with_reducible rfl
            try simp only [Act.put, List.setIfInBounds_toArray, List.set_cons_zero, List.set_cons_succ]
            refine wpAnyH_take (i := 10) (oi := { dst := some 48, op := Op.load 38 (Operand.tmp 47), type := 38, pos := "squeeze.go:20", after := #[{ on := 9, ground := Ground.data }, { on := 2, ground := Ground.guard }], guard := some (2, true) }) (v := ?_) rfl (by kernel_rfl) (by kernel_rfl) (by kernel_rfl) (fun _ _ _ h => h) (Or.inl ⟨by rfl, ?_⟩) hHeld ?_
            rotate_left
            · intro w hSw
              try dsimp only at hSw
              go_simp
              try with_reducible rfl
            try simp only [Act.put, List.setIfInBounds_toArray, List.set_cons_zero, List.set_cons_succ]
            refine wpAnyH_take (i := 11) (oi := { dst := some 49, op := Op.move (Operand.tmp 5), type := 3, pos := "squeeze.go:20", after := #[{ on := 2, ground := Ground.guard }], guard := some (2, true) }) (v := ?_) rfl (by kernel_rfl) (by kernel_rfl) (by kernel_rfl) (fun _ _ _ h => h) (Or.inl ⟨by rfl, ?_⟩) hHeld ?_
            rotate_left
            · intro w hSw
              try dsimp only at hSw
              go_simp
              try with_reducible rfl
            try simp only [Act.put, List.setIfInBounds_toArray, List.set_cons_zero, List.set_cons_succ]
            refine wpAnyH_take (i := 12) (oi := { dst := some 50, op := Op.indexAddr 38 (Operand.tmp 48) (Operand.tmp 49), type := 0, pos := "squeeze.go:20", after := #[{ on := 10, ground := Ground.data }, { on := 11, ground := Ground.data }, { on := 2, ground := Ground.guard }], guard := some (2, true) }) (v := ?_) rfl (by kernel_rfl) (by kernel_rfl) (by kernel_rfl) (fun _ _ _ h => h) (Or.inl ⟨by rfl, ?_⟩) hHeld ?_
            rotate_left
            · intro w hSw
              try dsimp only at hSw
              go_simp
              try with_reducible rfl
            try simp only [Act.put, List.setIfInBounds_toArray, List.set_cons_zero, List.set_cons_succ]
            refine wpAnyH_take (i := 13) (oi := { dst := some 51, op := Op.load 26 (Operand.tmp 50), type := 26, pos := "squeeze.go:20", after := #[{ on := 12, ground := Ground.data }, { on := 2, ground := Ground.guard }], guard := some (2, true) }) (v := ?_) rfl (by kernel_rfl) (by kernel_rfl) (by kernel_rfl) (fun _ _ _ h => h) (Or.inl ⟨by rfl, ?_⟩) hHeld ?_
            rotate_left
            · intro w hSw
              try dsimp only at hSw
              go_simp
              try with_reducible rfl
            try simp only [Act.put, List.setIfInBounds_toArray, List.set_cons_zero, List.set_cons_succ]
            refine wpAnyH_take (i := 14) (oi := { dst := some 52, op := Op.binOp BinOp.eql 26 (Operand.tmp 46) (Operand.tmp 51) 26, type := 4, pos := "squeeze.go:20", after := #[{ on := 8, ground := Ground.data }, { on := 13, ground := Ground.data }, { on := 2, ground := Ground.guard }], guard := some (2, true) }) (v := ?_) rfl (by kernel_rfl) (by kernel_rfl) (by kernel_rfl) (fun _ _ _ h => h) (Or.inl ⟨by rfl, ?_⟩) hHeld ?_
            rotate_left
            · intro w hSw
              try dsimp only at hSw
              go_simp
              try with_reducible rfl
            try simp only [Act.put, List.setIfInBounds_toArray, List.set_cons_zero, List.set_cons_succ]
            refine wpAnyH_take (i := 15) (oi := { dst := some 53, op := Op.pick (Operand.tmp 40) (Operand.tmp 52) (Operand.const (Value.bool false)), type := 4, pos := "squeeze.go:20", after := #[{ on := 2, ground := Ground.data }, { on := 14, ground := Ground.data }], guard := none }) (v := ?_) rfl (by kernel_rfl) (by kernel_rfl) (by kernel_rfl) (fun _ _ _ h => h) (Or.inl ⟨by rfl, ?_⟩) hHeld ?_
            rotate_left
            · intro w hSw
              try dsimp only at hSw
              go_simp
              try with_reducible rfl
            try simp only [Act.put, List.setIfInBounds_toArray, List.set_cons_zero, List.set_cons_succ]
            refine wpAnyH_done (by kernel_rfl) ?_ _
            clear hHeld
            go_wp2_with fail
            go_roundw
            case rel => exact ⟨k, by go_num, by omega, HN.out, hx.drew, hz.drew, hb.drew⟩
            case measure => simp [intOf]
        · obtain rfl : b = 0 := by omega
          have hlt' : decide ((0 : Int) < ((0 : Nat) : Int)) = false := by simp
          refine wp_region_held_drew (S := fun w' => w'.cell? ⟨w.heap.size, 1, none⟩ = some (.slice (some ad) (e + 1) c) ∧ ldT 26 (.pointer (some (ad.add (0 * 19)))) w' = some (ra_ l 0).A ∧ ldT 26 (.pointer (some (ad.add (0 * 19)))) w' = some (ra_ l 0).A) (by kernel_rfl) (sq_mk 0 0 hR hb.drew hx (by omega) (by omega) rfl rfl (Lib.hid rfl) (Lib.hid rfl)) (fun hHeld => ?_)
          refine wpAnyH_take (i := 0) (oi := { dst := some 38, op := Op.move (Operand.tmp 7), type := 3, pos := "squeeze.go:20", after := #[], guard := none }) (v := ?_) rfl (by kernel_rfl) (by kernel_rfl) (by kernel_rfl) (fun _ _ _ h => h) (Or.inl ⟨by rfl, ?_⟩) hHeld ?_
          rotate_left
          · intro w hSw
            try dsimp only at hSw
            go_simp
            try with_reducible rfl
          try simp only [Act.put, List.setIfInBounds_toArray, List.set_cons_zero, List.set_cons_succ]
          refine wpAnyH_take (i := 1) (oi := { dst := some 39, op := Op.binOp BinOp.gtr 3 (Operand.tmp 38) (Operand.const (Value.int IntKind.i64 0)) 3, type := 4, pos := "squeeze.go:20", after := #[{ on := 0, ground := Ground.data }], guard := none }) (v := ?_) rfl (by kernel_rfl) (by kernel_rfl) (by kernel_rfl) (fun _ _ _ h => h) (Or.inl ⟨by rfl, ?_⟩) hHeld ?_
          rotate_left
          · intro w hSw
            try dsimp only at hSw
            go_simp
            try with_reducible rfl
          try simp only [Act.put, List.setIfInBounds_toArray, List.set_cons_zero, List.set_cons_succ]
          refine wpAnyH_take (i := 2) (oi := { dst := some 40, op := Op.move (Operand.tmp 39), type := 4, pos := "squeeze.go:20", after := #[{ on := 1, ground := Ground.data }], guard := none }) (v := ?_) rfl (by kernel_rfl) (by kernel_rfl) (by kernel_rfl) (fun _ _ _ h => h) (Or.inl ⟨by rfl, ?_⟩) hHeld ?_
          rotate_left
          · intro w hSw
            try dsimp only at hSw
            go_simp
            try with_reducible rfl
          try simp only [Act.put, List.setIfInBounds_toArray, List.set_cons_zero, List.set_cons_succ]
          refine wpAnyH_take (i := 3) (oi := { dst := some 41, op := Op.fieldAddr 75 (Operand.tmp 1) 1, type := 0, pos := "squeeze.go:20", after := #[{ on := 2, ground := Ground.guard }], guard := some (2, true) }) (v := undef) rfl (by kernel_rfl) (by kernel_rfl) (by kernel_rfl) (fun _ _ _ h => h) (Or.inr ⟨by rfl, rfl⟩) hHeld ?_
          try simp only [Act.put, List.setIfInBounds_toArray, List.set_cons_zero, List.set_cons_succ]
          refine wpAnyH_take (i := 4) (oi := { dst := some 42, op := Op.load 38 (Operand.tmp 41), type := 38, pos := "squeeze.go:20", after := #[{ on := 3, ground := Ground.data }, { on := 2, ground := Ground.guard }], guard := some (2, true) }) (v := undef) rfl (by kernel_rfl) (by kernel_rfl) (by kernel_rfl) (fun _ _ _ h => h) (Or.inr ⟨by rfl, rfl⟩) hHeld ?_
          try simp only [Act.put, List.setIfInBounds_toArray, List.set_cons_zero, List.set_cons_succ]
          refine wpAnyH_take (i := 5) (oi := { dst := some 43, op := Op.move (Operand.tmp 7), type := 3, pos := "squeeze.go:20", after := #[{ on := 2, ground := Ground.guard }], guard := some (2, true) }) (v := undef) rfl (by kernel_rfl) (by kernel_rfl) (by kernel_rfl) (fun _ _ _ h => h) (Or.inr ⟨by rfl, rfl⟩) hHeld ?_
          try simp only [Act.put, List.setIfInBounds_toArray, List.set_cons_zero, List.set_cons_succ]
          refine wpAnyH_take (i := 6) (oi := { dst := some 44, op := Op.binOp BinOp.sub 3 (Operand.tmp 43) (Operand.const (Value.int IntKind.i64 1)) 3, type := 3, pos := "squeeze.go:20", after := #[{ on := 5, ground := Ground.data }, { on := 2, ground := Ground.guard }], guard := some (2, true) }) (v := undef) rfl (by kernel_rfl) (by kernel_rfl) (by kernel_rfl) (fun _ _ _ h => h) (Or.inr ⟨by rfl, rfl⟩) hHeld ?_
          try simp only [Act.put, List.setIfInBounds_toArray, List.set_cons_zero, List.set_cons_succ]
          refine wpAnyH_take (i := 7) (oi := { dst := some 45, op := Op.indexAddr 38 (Operand.tmp 42) (Operand.tmp 44), type := 0, pos := "squeeze.go:20", after := #[{ on := 4, ground := Ground.data }, { on := 6, ground := Ground.data }, { on := 2, ground := Ground.guard }], guard := some (2, true) }) (v := undef) rfl (by kernel_rfl) (by kernel_rfl) (by kernel_rfl) (fun _ _ _ h => h) (Or.inr ⟨by rfl, rfl⟩) hHeld ?_
          try simp only [Act.put, List.setIfInBounds_toArray, List.set_cons_zero, List.set_cons_succ]
          refine wpAnyH_take (i := 8) (oi := { dst := some 46, op := Op.load 26 (Operand.tmp 45), type := 26, pos := "squeeze.go:20", after := #[{ on := 7, ground := Ground.data }, { on := 2, ground := Ground.guard }], guard := some (2, true) }) (v := undef) rfl (by kernel_rfl) (by kernel_rfl) (by kernel_rfl) (fun _ _ _ h => h) (Or.inr ⟨by rfl, rfl⟩) hHeld ?_
          try simp only [Act.put, List.setIfInBounds_toArray, List.set_cons_zero, List.set_cons_succ]
          refine wpAnyH_take (i := 9) (oi := { dst := some 47, op := Op.fieldAddr 75 (Operand.tmp 1) 1, type := 0, pos := "squeeze.go:20", after := #[{ on := 2, ground := Ground.guard }], guard := some (2, true) }) (v := undef) rfl (by kernel_rfl) (by kernel_rfl) (by kernel_rfl) (fun _ _ _ h => h) (Or.inr ⟨by rfl, rfl⟩) hHeld ?_
          try simp only [Act.put, List.setIfInBounds_toArray, List.set_cons_zero, List.set_cons_succ]
          refine wpAnyH_take (i := 10) (oi := { dst := some 48, op := Op.load 38 (Operand.tmp 47), type := 38, pos := "squeeze.go:20", after := #[{ on := 9, ground := Ground.data }, { on := 2, ground := Ground.guard }], guard := some (2, true) }) (v := undef) rfl (by kernel_rfl) (by kernel_rfl) (by kernel_rfl) (fun _ _ _ h => h) (Or.inr ⟨by rfl, rfl⟩) hHeld ?_
          try simp only [Act.put, List.setIfInBounds_toArray, List.set_cons_zero, List.set_cons_succ]
          refine wpAnyH_take (i := 11) (oi := { dst := some 49, op := Op.move (Operand.tmp 5), type := 3, pos := "squeeze.go:20", after := #[{ on := 2, ground := Ground.guard }], guard := some (2, true) }) (v := undef) rfl (by kernel_rfl) (by kernel_rfl) (by kernel_rfl) (fun _ _ _ h => h) (Or.inr ⟨by rfl, rfl⟩) hHeld ?_
          try simp only [Act.put, List.setIfInBounds_toArray, List.set_cons_zero, List.set_cons_succ]
          refine wpAnyH_take (i := 12) (oi := { dst := some 50, op := Op.indexAddr 38 (Operand.tmp 48) (Operand.tmp 49), type := 0, pos := "squeeze.go:20", after := #[{ on := 10, ground := Ground.data }, { on := 11, ground := Ground.data }, { on := 2, ground := Ground.guard }], guard := some (2, true) }) (v := undef) rfl (by kernel_rfl) (by kernel_rfl) (by kernel_rfl) (fun _ _ _ h => h) (Or.inr ⟨by rfl, rfl⟩) hHeld ?_
          try simp only [Act.put, List.setIfInBounds_toArray, List.set_cons_zero, List.set_cons_succ]
          refine wpAnyH_take (i := 13) (oi := { dst := some 51, op := Op.load 26 (Operand.tmp 50), type := 26, pos := "squeeze.go:20", after := #[{ on := 12, ground := Ground.data }, { on := 2, ground := Ground.guard }], guard := some (2, true) }) (v := undef) rfl (by kernel_rfl) (by kernel_rfl) (by kernel_rfl) (fun _ _ _ h => h) (Or.inr ⟨by rfl, rfl⟩) hHeld ?_
          try simp only [Act.put, List.setIfInBounds_toArray, List.set_cons_zero, List.set_cons_succ]
          refine wpAnyH_take (i := 14) (oi := { dst := some 52, op := Op.binOp BinOp.eql 26 (Operand.tmp 46) (Operand.tmp 51) 26, type := 4, pos := "squeeze.go:20", after := #[{ on := 8, ground := Ground.data }, { on := 13, ground := Ground.data }, { on := 2, ground := Ground.guard }], guard := some (2, true) }) (v := undef) rfl (by kernel_rfl) (by kernel_rfl) (by kernel_rfl) (fun _ _ _ h => h) (Or.inr ⟨by rfl, rfl⟩) hHeld ?_
          try simp only [Act.put, List.setIfInBounds_toArray, List.set_cons_zero, List.set_cons_succ]
          refine wpAnyH_take (i := 15) (oi := { dst := some 53, op := Op.pick (Operand.tmp 40) (Operand.tmp 52) (Operand.const (Value.bool false)), type := 4, pos := "squeeze.go:20", after := #[{ on := 2, ground := Ground.data }, { on := 14, ground := Ground.data }], guard := none }) (v := ?_) rfl (by kernel_rfl) (by kernel_rfl) (by kernel_rfl) (fun _ _ _ h => h) (Or.inl ⟨by rfl, ?_⟩) hHeld ?_
          rotate_left
          · intro w hSw
            try dsimp only at hSw
            go_simp
            try with_reducible rfl
          try simp only [Act.put, List.setIfInBounds_toArray, List.set_cons_zero, List.set_cons_succ]
          refine wpAnyH_done (by kernel_rfl) ?_ _
          clear hHeld
          go_wp2_with fail
          go_meet
          exact ⟨0, rfl, by omega, HA.out, .inl rfl, hx.drew, hz.drew, hb.drew⟩
    case rest =>
    clear x2 z2 b2
    obtain ⟨b, rfl, hb3, hall2, hend2, x2, z2, b2⟩ := hcut
    have HA2 := Lib.hid hall2; have HE2 := Lib.hid hend2
    clear hall2 hend2
    obtain ⟨w4, rfl⟩ : ∃ V : World, V = wc := ⟨_, rfl⟩
    go_upto_if 58 with fail
    go_cut [6, 7] (fun (v1 v2 : Value) (wx : World) => ∃ a b : Nat, v1 = .int .i64 a ∧ v2 = .int .i64 b ∧ SqT l a b ∧ Blk wx w.heap.size 75 #[.int .i64 P, .slice (some ad) (e + 1) c, .slice A2 n2 c2] ∧ Blk wx (w.heap.size + 1) 40 #[.int .i64 0, .int .i64 0, .slice none 0 0] ∧ Below w.heap.size w wx)
    case first =>
      by_cases hae : a = e
      · subst hae
        have hdd : ((a : Int) == (a : Int)) = true := by simp
        go_wp2_with fail
        go_meet
        exact ⟨0, 0, rfl, rfl, ⟨Nat.le_refl _, by omega, fun j hj => by rw [Nat.le_zero.1 hj], fun j _ hj => by rw [HA1.out j (by omega), HA1.out (l.length - 1) (by omega)], fun _ => rfl, fun h => absurd rfl h, fun h => absurd rfl h⟩, x2, z2, b2⟩
      · have hdd : ((a : Int) == (e : Int)) = false := by simp; omega
        go_wp2_with fail
        go_meet
        have e1 := HA1.out; have e2 := HE1.out; have e3 := HA2.out; have e4 := HE2.out
        have hne := e2.resolve_left hae
        have hab : a < b := by
          rcases Nat.lt_or_ge a b with g | g
          · exact g
          · exact absurd (by rw [e3 (a + 1) (by omega) (by omega), ← e3 a g (by omega), e1 a (Nat.le_refl _)]) hne
        exact ⟨a, b, rfl, rfl, ⟨by omega, by omega, e1, fun j h1 h2 => by rw [e3 j h1 (by omega), show l.length - 1 = e by omega], fun h => by omega, fun _ => hne, fun _ => by rw [show l.length - 1 = e by omega]; exact e4.resolve_left (by omega)⟩, x2, z2, b2⟩
    case rest =>
    clear x2 z2 b2 HA1 HE1 HA2 HE2 ha hb3
    obtain ⟨a, b, rfl, rfl, hS, x2, z2, b2⟩ := hcut
    obtain ⟨w5, rfl⟩ : ∃ V : World, V = wc := ⟨_, rfl⟩
    have hab := hS.le
    have hbl := hS.lt
    have hQ := Lib.hid hS
    obtain ⟨i0i, hi0, hz0, hz1, hz2⟩ := info_parts rc_info
    have hmk := fun W => run_make_sub a b W hab (by omega)
    have d1 : w5.cell? ⟨w.heap.size, 1, none⟩ = some (.slice (some ad) (e + 1) c) := x2.cell 1
    clear hS
    have x6 := x2.alloc (.cells (madeCells z19 ((b - a + 1) * 19)) 26)
    have z6 := z2.alloc (.cells (madeCells z19 ((b - a + 1) * 19)) 26)
    have b6 := b2.alloc b2.size (.cells (madeCells z19 ((b - a + 1) * 19)) 26)
    have u6 := Blk.new w5 26 (madeCells z19 ((b - a + 1) * 19))
    have zlt := z2.lt
    go_upto_region 13 with fail
    clear hmk x2 z2 d1
    generalize w5.alloc (.cells (madeCells z19 ((b - a + 1) * 19)) 26) = W at *
    generalize w5.heap.size = g at *
    have d6 : W.cell? ⟨w.heap.size, 1, none⟩ = some (.slice (some ad) (e + 1) c) := x6.cell 1
    have s1 : (b : Int) + 1 ≤ (c : Int) := by omega
    have s2 : (a : Int) ≤ (b : Int) + 1 := by omega
    have s3 : ((b : Int) + 1).toNat = b + 1 := by omega
    have hsrc := (sub_recs (hR.below b6) hab hbl).1
    have hsbd := (sub_recs (hR.below b6) hab hbl).2
    have hsl := sub_len hab hbl
    have hn1 : (flat (sub l a b)).length = Nat.min (b + 1 - a) (b - a + 1) * 19 := by rw [flat_len, hsl, show Nat.min (b + 1 - a) (b - a + 1) = b - a + 1 from by show min _ _ = _; omega]
    have hn2 : (flat (sub l a b)).length = (madeCells z19 ((b - a + 1) * 19)).size := by rw [flat_len, hsl, size_madeCells]
    have h1 := flat_one (sub l a b)
    have x7 := Blk.rowFar x6 (show w.heap.size ≠ g by omega) (flat (sub l a b)).toArray
    have z7 := Blk.rowFar z6 (show w.heap.size + 1 ≠ g by omega) (flat (sub l a b)).toArray
    have u7 := Blk.row u6 (flat (sub l a b)).toArray
    have b7 := below_row b6 (show w.heap.size ≤ g by omega) (flat (sub l a b)).toArray
    have SB := Lib.hid hsbd; have SL := Lib.hid hsl
    clear hsbd hsl
    generalize hG : flat (sub l a b) = G at *
    have HG := Lib.hid hG; clear hG
    have hws1 : IntKind.i64.wrap (P + (a : Int)) = P + (a : Int) := by simp [IntKind.wrap, IntKind.bits, IntKind.signed]; omega
    have hcp := run_copy_rows (P := Tryd.prog) W 38 38 3 26 g 0 (b - a + 1) (b - a + 1) (ad.add (a * 19)) (b + 1 - a) (c - a) 19 (madeCells z19 ((b - a + 1) * 19)) 26 G Tryd.underlying38 (by kernel_rfl) u6 hn1 hsrc (by omega) h1
    rw [show ((madeCells z19 ((b - a + 1) * 19)).toList.take 0 ++ G ++ (madeCells z19 ((b - a + 1) * 19)).toList.drop (0 + G.length)).toArray = G.toArray from by rw [List.take_zero, List.nil_append, Nat.zero_add, hn2, List.drop_of_length_le (by simp), List.append_nil]] at hcp
    clear h1 hsrc x6 z6 u6 b6 hn1 hn2
    go_upto_region 14 with fail
    clear hcp
    generalize W.setRow g G.toArray = V at *
    have e0 : V.cell? ⟨w.heap.size, 0, none⟩ = some (.int .i64 P) := x7.cell 0
    go_wp2_with (refine wpList_store_g rfl 40 _ _ rfl rfl _ 0 (tbA (P + a) (P + b) (some ⟨g, 0, none⟩) (b - a + 1) (b - a + 1)) (tbA (P + a) (P + b) (some ⟨g, 0, none⟩) (b - a + 1) (b - a + 1)) rfl rfl _ _ z7 (by show 0 + 3 ≤ 3; decide) (by kernel_rfl) (by kernel_rfl) (by kernel_rfl) ?_)
    have z8 := Blk.row z7 (tbA (P + a) (P + b) (some ⟨g, 0, none⟩) (b - a + 1) (b - a + 1))
    have u8 := Blk.rowFar u7 (show g ≠ w.heap.size + 1 by omega) (tbA (P + a) (P + b) (some ⟨g, 0, none⟩) (b - a + 1) (b - a + 1))
    rw [← HG.out] at u8
    exact bodyPost_ret (res_ct rfl _ _ _ _ _ _ _ rfl rfl z8 Tryd.underlying40 rfl (by kernel_rfl)) rfl ⟨.inr ⟨H0.out, a, b, g, hQ.out, recs_blk u8 SL.out SB.out, rfl⟩, below_row b7 (Nat.le_add_right _ 1) _⟩
end Go.Proofs.YtefcjccapekjdaaDoor.Sq
