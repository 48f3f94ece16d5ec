/-
  place.parse, walked: the place that a line tells, or a column, and what is wrong.
-/
import Derived.Test.YtoiccljmdplfgaaLn
import Derived.Test.YtoiccljmdplfgaaNr1
import Derived.Test.YtoiccljmdplfgaaPt4
import Derived.Test.YtoiccljmdplfgaaLdA
import Derived.Deep.RegionHeld3
namespace Go.Proofs.Ytoiccljmdplfgaa.Nr
open Go.ChangeShapes Go.WideShapes Go.ChangeAt Go.RowKit Go.Shelf
open Go.Proofs.Ytoiccljmdplfgaa
open Go.Proofs.Ytoiccljmdplfgaa.Wd
open Go.Proofs.Ytoiccljmdplfgaa.Pl
open Go.Proofs.Ytoiccljmdplfgaa.Nv
open Go.Proofs.Ytoiccljmdplfgaa.Ld
open Go.Proofs.Ytoiccljmdplfgaa.Sl (wp_store_g)
open Go.Proofs.Ytoiccljmdplfgaa.Pt (L B ptE ptV point_at V1 own_ge)
open Go.Proofs.Ytoiccljmdplfgaa.Scn (Fl FR flA flatF B_len L_B)
set_option linter.unusedVariables false
set_option linter.unusedSimpArgs false
attribute [local go_sem ↓] Go.wp_at_zero Go.wp_at_succ
attribute [local go_sem ↓] ldP_sem
attribute [local go_sem] ldSem_run
/-- a field of a line -/
abbrev fl_ (l : List Fl) (k : Nat) : Fl := l.getD k ([], 0)
inductive PR where
  | ok (a : Pc)
  | bad (c : Nat) (y : Int)
/-- the place that fields tell; or a column, and what is wrong -/
def prs (l : List Fl) : PR :=
  if l.length < 3 then .bad (fl_ l (l.length - 1)).2 5
  else if ttB (B (fl_ l 0).1) = false then .bad (fl_ l 0).2 2
  else if ptE (fl_ l 1).1 ≠ 0 then .bad (fl_ l 1).2 4
  else if nmB (B (fl_ l 2).1) = false then .bad (fl_ l 2).2 7
  else .ok ⟨B (fl_ l 0).1, ptV (fl_ l 1).1, B (fl_ l 2).1⟩
theorem prs_1 {l : List Fl} (h : l.length < 3) : prs l = .bad (fl_ l (l.length - 1)).2 5 := by unfold prs; rw [if_pos h]
theorem prs_2 {l : List Fl} (h : ¬ l.length < 3) (h2 : ttB (B (fl_ l 0).1) = false) : prs l = .bad (fl_ l 0).2 2 := by unfold prs; rw [if_neg h, if_pos h2]
theorem prs_3 {l : List Fl} (h : ¬ l.length < 3) (h2 : ttB (B (fl_ l 0).1) = true) (h3 : ptE (fl_ l 1).1 ≠ 0) : prs l = .bad (fl_ l 1).2 4 := by
  unfold prs; rw [if_neg h, if_neg (by rw [h2]; decide), if_pos h3]
theorem prs_4 {l : List Fl} (h : ¬ l.length < 3) (h2 : ttB (B (fl_ l 0).1) = true) (h3 : ptE (fl_ l 1).1 = 0) (h4 : nmB (B (fl_ l 2).1) = false) : prs l = .bad (fl_ l 2).2 7 := by
  unfold prs; rw [if_neg h, if_neg (by rw [h2]; decide), if_neg (by rw [h3]; decide), if_pos h4]
theorem prs_5 {l : List Fl} (h : ¬ l.length < 3) (h2 : ttB (B (fl_ l 0).1) = true) (h3 : ptE (fl_ l 1).1 = 0) (h4 : nmB (B (fl_ l 2).1) = true) : prs l = .ok ⟨B (fl_ l 0).1, ptV (fl_ l 1).1, B (fl_ l 2).1⟩ := by
  unfold prs; rw [if_neg h, if_neg (by rw [h2]; decide), if_neg (by rw [h3]; decide), if_neg (by rw [h4]; decide)]
theorem flat_at_ : ∀ (l : List Fl) (k : Nat), k < l.length → (flatF l)[k * 2]? = some (.string (B (fl_ l k).1)) ∧ (flatF l)[k * 2 + 1]? = some (.int .i64 ((fl_ l k).2 : Int))
  | [], k, h => absurd h (Nat.not_lt_zero _)
  | a :: t, 0, _ => ⟨by simp [flatF, B], by simp [flatF]⟩
  | a :: t, k + 1, h => by
    have ih := flat_at_ t k (by simpa using h)
    have e : flatF (a :: t) = (flA a).toList ++ flatF t := rfl
    rw [e]
    constructor
    · rw [List.getElem?_append_right (by simp; omega), show (k + 1) * 2 - (flA a).toList.length = k * 2 by simp; omega]
      exact ih.1
    · rw [List.getElem?_append_right (by simp; omega), show (k + 1) * 2 + 1 - (flA a).toList.length = k * 2 + 1 by simp; omega]
      exact ih.2
theorem fcells {w : World} {Bd g n k : Nat} {l : List Fl} (h : Reads w Bd 2 (some ⟨g, 0, none⟩) n (flatF l)) (hn : l.length = n) (hk : k < n) :
    w.cell? ⟨g, k * 2, none⟩ = some (.string (B (fl_ l k).1)) ∧ w.cell? ⟨g, k * 2 + 1, none⟩ = some (.int .i64 ((fl_ l k).2 : Int)) := by
  obtain ⟨ad, e, _, hc⟩ := h.2 (by omega)
  injection e with e; subst e
  have := flat_at_ l k (by omega)
  have e : ∀ j, (⟨g, 0, none⟩ : Addr).add j = ⟨g, j, none⟩ := fun j => by unfold Addr.add; split <;> simp_all
  exact ⟨by rw [← e]; exact hc _ _ this.1, by rw [← e]; exact hc _ _ this.2⟩
def PrP (R : PR) (w : World) (e : Ending) (w' : World) : Prop :=
  Below w.heap.size w w' ∧ match R with
    | .ok a => e = .returned (.tuple #[a.V, .int .i64 0, .int .i64 0])
    | .bad c y => e = .returned (.tuple #[.agg ZP, .int .i64 (c : Int), .int .i64 y])
theorem prs_fine {l : List Fl} (h0 : l ≠ []) (hl : ∀ f ∈ l, 1 ≤ f.2) {c : Nat} {y : Int} (h : prs l = .bad c y) : 1 ≤ c ∧ y ≠ 0 := by
  have hp : 0 < l.length := Nat.pos_of_ne_zero (fun q => h0 (List.eq_nil_of_length_eq_zero q))
  have hc : ∀ k, k < l.length → 1 ≤ (fl_ l k).2 := fun k hk => by
    refine hl _ ?_
    show l.getD k _ ∈ l
    rw [List.getD_eq_getElem?_getD, List.getElem?_eq_getElem hk]; exact List.getElem_mem hk
  unfold prs at h
  split at h
  · cases h; exact ⟨hc _ (by omega), by decide⟩
  · split at h
    · cases h; exact ⟨hc _ (by omega), by decide⟩
    · split at h
      · cases h; exact ⟨hc _ (by omega), by decide⟩
      · split at h
        · cases h; exact ⟨hc _ (by omega), by decide⟩
        · cases h
theorem prs_right {l : List Fl} {a : Pc} (h : prs l = .ok a) : a = ⟨B (fl_ l 0).1, ptV (fl_ l 1).1, B (fl_ l 2).1⟩ ∧ 3 ≤ l.length ∧ ttB (B (fl_ l 0).1) = true ∧ ptE (fl_ l 1).1 = 0 ∧ nmB (B (fl_ l 2).1) = true := by
  unfold prs at h
  split at h
  · cases h
  · split at h
    · cases h
    · split at h
      · cases h
      · split at h
        · cases h
        · rename_i h1 h2 h3 h4
          cases h
          exact ⟨rfl, by omega, by simpa using h2, by simpa using h3, by simpa using h4⟩
theorem prp_bad {R : PR} {w w' : World} {c : Nat} {y : Int} (h : R = .bad c y) (hb : Below w.heap.size w w') : PrP R w (.returned (.tuple #[.agg ZP, .int .i64 (c : Int), .int .i64 y])) w' := by subst h; exact ⟨hb, rfl⟩
theorem prp_ok {R : PR} {w w' : World} {a : Pc} (h : R = .ok a) (hb : Below w.heap.size w w') : PrP R w (.returned (.tuple #[.agg a.C, .int .i64 0, .int .i64 0])) w' := by subst h; exact ⟨hb, rfl⟩
theorem fc3 {w : World} {Bd g n : Nat} {l : List Fl} (h : Reads w Bd 2 (some ⟨g, 0, none⟩) n (flatF l)) (hn : l.length = n) (hk : 2 < n) :
    (w.cell? ⟨g, 0, none⟩ = some (.string (B (fl_ l 0).1)) ∧ w.cell? ⟨g, 1, none⟩ = some (.int .i64 ((fl_ l 0).2 : Int))) ∧ (w.cell? ⟨g, 2, none⟩ = some (.string (B (fl_ l 1).1)) ∧ w.cell? ⟨g, 3, none⟩ = some (.int .i64 ((fl_ l 1).2 : Int))) ∧
    (w.cell? ⟨g, 4, none⟩ = some (.string (B (fl_ l 2).1)) ∧ w.cell? ⟨g, 5, none⟩ = some (.int .i64 ((fl_ l 2).2 : Int))) :=
  ⟨fcells (k := 0) h hn (by omega), fcells (k := 1) h hn (by omega), fcells (k := 2) h hn hk⟩
theorem results_p3 {fn : Func} {p q r : Tmp} (h : fn.results = #[.cell p 67, .tmp q, .tmp r]) (tmps : Array Value) (w : World) (g : Nat) (t : TypeId) (cs : Array Value) (u v : Value)
    (hp : tmps.getD p undef = .pointer (some ⟨g, 0, none⟩)) (hq : tmps.getD q undef = u) (hr : tmps.getD r undef = v) (hg : w.heap[g]? = some (.cells cs t (0, 0))) (hs : cs.size = 4) :
    (results fn tmps).run Try.prog w = .ok (.tuple #[.agg cs, u, v]) w := by
  have hp' : tmps[p]?.getD undef = .pointer (some ⟨g, 0, none⟩) := by simpa using hp
  have hq' : tmps[q]?.getD undef = u := by simpa using hq
  have hr' : tmps[r]?.getD undef = v := by simpa using hr
  have hi : (Try.prog.info? 67).map (·.size) = some cs.size := by rw [hs]; kernel_rfl
  have hl := run_loadVar_row w g t 67 cs (0, 0) _ hg Try.underlying67 rfl hi
  simp [results, h, hp', hq', hr', asAddr]
  rw [hl]; rfl
theorem s1_st {w W : World} {g off : Nat} {v : Value} (hg : g < w.heap.size) (k : Blk W w.heap.size 67 ZP ∧ W.cell? ⟨g, off, none⟩ = some (v) ∧ Below w.heap.size w W) :
    Blk (W.setRow w.heap.size ZP) w.heap.size 67 ZP ∧ (W.setRow w.heap.size ZP).cell? ⟨g, off, none⟩ = some (v) ∧ Below w.heap.size w (W.setRow w.heap.size ZP) := by
  obtain ⟨k1, k2, k3⟩ := k
  exact ⟨k1.row _, by rw [cell_setRow_other _ _ _ _ (by show g ≠ _; omega)]; exact k2, below_row k3 (Nat.le_refl _) _⟩
theorem s10_st {w W : World} {g gp : Nat} {V : P2} {t0 t2 : ByteArray} {cs : Array Value} (hg : g ≠ w.heap.size) (hgp : gp ≠ w.heap.size) (k : W.cell? ⟨g, 0, none⟩ = some (.string t0) ∧ W.cell? ⟨g, 4, none⟩ = some (.string t2) ∧ Blk W gp 23 V.A ∧ ldT 23 (.pointer (some ⟨gp, 0, none⟩)) W = some V.A ∧ Below w.heap.size w W) :
    (W.setRow w.heap.size cs).cell? ⟨g, 0, none⟩ = some (.string t0) ∧ (W.setRow w.heap.size cs).cell? ⟨g, 4, none⟩ = some (.string t2) ∧ Blk (W.setRow w.heap.size cs) gp 23 V.A ∧ ldT 23 (.pointer (some ⟨gp, 0, none⟩)) (W.setRow w.heap.size cs) = some V.A ∧ Below w.heap.size w (W.setRow w.heap.size cs) := by
  obtain ⟨k1, k2, k3, -, k5⟩ := k
  have k3' := k3.rowFar hgp cs
  exact ⟨by rw [cell_setRow_other _ _ _ _ hg]; exact k1, by rw [cell_setRow_other _ _ _ _ hg]; exact k2, k3', ldT_of (ld_seg k3' Try.underlying23 rfl (by kernel_rfl) (by kernel_rfl)), below_row k5 (Nat.le_refl _) _⟩
set_option maxRecDepth 40000 in
set_option maxHeartbeats 6400000 in
theorem prs_any (g n c : Nat) (l : List Fl) (w : World) (hR : Reads w w.heap.size 2 (some ⟨g, 0, none⟩) n (flatF l)) (hl : l.length = n) (h0 : 0 < n) (ht : ∀ f ∈ l, f.1.length ≤ 2048) :
    Calls Try.prog 70 #[.slice (some ⟨g, 0, none⟩) n c] w (PrP (prs l) w) := by
  have hg : g < w.heap.size := by
    obtain ⟨ad, e, hb, _⟩ := hR.2 h0
    injection e with e; subst e; exact hb
  have b1 := (Below.refl w.heap.size w).alloc (Nat.le_refl _) (.cells ZP 67)
  have x1 := Blk.new w 67 ZP
  by_cases h3 : n < 3
  · have h3' : (n : Int) < 3 := by omega
    have HE := Lib.hid (prs_1 (by rw [hl]; exact h3))
    have c1 := (fcells (hR.below b1) hl (show n - 1 < n by omega)).2
    rw [hl] at HE
    generalize (fl_ l (n - 1)).2 = col at *
    go_enter Try.func70, Try.ntmps70
    have wr0 : IntKind.i64.wrap 0 = 0 := by decide
    have wr1 : IntKind.i64.wrap 1 = 1 := by decide
    obtain rfl | rfl : n = 1 ∨ n = 2 := by omega
    · clear hR ht hl h3
      go_upto_region 2 with fail
      have ZZ := Lib.hid (show Blk (w.alloc (.cells ZP 67)).drew w.heap.size 67 ZP ∧ (w.alloc (.cells ZP 67)).drew.cell? ⟨g, 1, none⟩ = some (.int .i64 (col : Int)) ∧ Below w.heap.size w (w.alloc (.cells ZP 67)).drew from ⟨x1, c1, b1.drew⟩)
      refine wp_region_held_drew (S := fun w' => Blk w' w.heap.size 67 ZP ∧ w'.cell? ⟨g, 1, none⟩ = some (.int .i64 (col : Int)) ∧ Below w.heap.size w w') (by kernel_rfl) (ZZ.out) (fun hHeld => ?_)
      refine wpAnyH_take (i := 0) (oi := { dst := some 10, op := Op.build 67 #[], type := 67, pos := "place.go:140", after := #[], guard := none }) (v := ?_) rfl (by kernel_rfl) (by kernel_rfl) (by kernel_rfl) (fun _ _ _ h => h) (Or.inl ⟨by rfl, ?_⟩) hHeld ?_
      rotate_left
      · intro w hSw
        try dsimp only at hSw
        go_simp
        try with_reducible rfl
      try simp only [Act.put, List.setIfInBounds_toArray, List.set_cons_zero, List.set_cons_succ]
      refine wpAnyH_take (i := 1) (oi := { dst := some 11, op := Op.move (Operand.tmp 0), type := 108, pos := "place.go:140", after := #[{ on := 8, ground := Ground.gcOnly Departure.lateStores }], guard := none }) (v := ?_) rfl (by kernel_rfl) (by kernel_rfl) (by kernel_rfl) (fun _ _ _ h => h) (Or.inl ⟨by rfl, ?_⟩) hHeld ?_
      rotate_left
      · intro w hSw
        try dsimp only at hSw
        go_simp
        try with_reducible rfl
      try simp only [Act.put, List.setIfInBounds_toArray, List.set_cons_zero, List.set_cons_succ]
      refine wpAnyH_take (i := 2) (oi := { dst := some 12, op := Op.move (Operand.tmp 0), type := 108, pos := "place.go:140", after := #[], guard := none }) (v := ?_) rfl (by kernel_rfl) (by kernel_rfl) (by kernel_rfl) (fun _ _ _ h => h) (Or.inl ⟨by rfl, ?_⟩) hHeld ?_
      rotate_left
      · intro w hSw
        try dsimp only at hSw
        go_simp
        try with_reducible rfl
      try simp only [Act.put, List.setIfInBounds_toArray, List.set_cons_zero, List.set_cons_succ]
      refine wpAnyH_take (i := 3) (oi := { dst := some 13, op := Op.call { callee := Callee.builtin Builtin.len, args := #[Operand.tmp 12], argTypes := #[108] }, type := 3, pos := "place.go:140", after := #[{ on := 2, ground := Ground.data }], guard := none }) (v := ?_) rfl (by kernel_rfl) (by kernel_rfl) (by kernel_rfl) (fun _ _ _ h => h) (Or.inl ⟨by rfl, ?_⟩) hHeld ?_
      rotate_left
      · intro w hSw
        try dsimp only at hSw
        go_simp
        try with_reducible rfl
      try simp only [Act.put, List.setIfInBounds_toArray, List.set_cons_zero, List.set_cons_succ]
      refine wpAnyH_take (i := 4) (oi := { dst := some 14, op := Op.binOp BinOp.sub 3 (Operand.tmp 13) (Operand.const (Value.int IntKind.i64 1)) 3, type := 3, pos := "place.go:140", after := #[{ on := 3, ground := Ground.data }, { on := 8, ground := Ground.gcOnly Departure.lateStores }], guard := none }) (v := ?_) rfl (by kernel_rfl) (by kernel_rfl) (by kernel_rfl) (fun _ _ _ h => h) (Or.inl ⟨by rfl, ?_⟩) hHeld ?_
      rotate_left
      · intro w hSw
        try dsimp only at hSw
        go_simp
        try with_reducible rfl
      try simp only [Act.put, List.setIfInBounds_toArray, List.set_cons_zero, List.set_cons_succ]
      refine wpAnyH_take (i := 5) (oi := { dst := some 15, op := Op.indexAddr 108 (Operand.tmp 11) (Operand.tmp 14), type := 0, pos := "place.go:140", after := #[{ on := 1, ground := Ground.data }, { on := 4, ground := Ground.data }, { on := 8, ground := Ground.gcOnly Departure.lateStores }], guard := none }) (v := ?_) rfl (by kernel_rfl) (by kernel_rfl) (by kernel_rfl) (fun _ _ _ h => h) (Or.inl ⟨by rfl, ?_⟩) hHeld ?_
      rotate_left
      · intro w hSw
        try dsimp only at hSw
        go_simp
        try with_reducible rfl
      try simp only [Act.put, List.setIfInBounds_toArray, List.set_cons_zero, List.set_cons_succ]
      refine wpAnyH_take (i := 6) (oi := { dst := some 16, op := Op.fieldAddr 114 (Operand.tmp 15) 1, type := 0, pos := "place.go:140", after := #[{ on := 5, ground := Ground.data }, { on := 8, ground := Ground.gcOnly Departure.lateStores }], guard := none }) (v := ?_) rfl (by kernel_rfl) (by kernel_rfl) (by kernel_rfl) (fun _ _ _ h => h) (Or.inl ⟨by rfl, ?_⟩) hHeld ?_
      rotate_left
      · intro w hSw
        try dsimp only at hSw
        go_simp
        try with_reducible rfl
      try simp only [Act.put, List.setIfInBounds_toArray, List.set_cons_zero, List.set_cons_succ]
      refine wpAnyH_take (i := 7) (oi := { dst := some 17, op := Op.load 3 (Operand.tmp 16), type := 3, pos := "place.go:140", after := #[{ on := 6, ground := Ground.data }, { on := 8, ground := Ground.gcOnly Departure.lateStores }], guard := none }) (v := ?_) rfl (by kernel_rfl) (by kernel_rfl) (by kernel_rfl) (fun _ _ _ h => h) (Or.inl ⟨by rfl, ?_⟩) hHeld ?_
      rotate_left
      · intro w hSw
        try dsimp only at hSw
        go_simp
        try with_reducible rfl
      try simp only [Act.put, List.setIfInBounds_toArray, List.set_cons_zero, List.set_cons_succ]
      refine wpAnyH_ready (rs := [8]) (by kernel_rfl) (by simp) ?_
      refine AllReadyH.cons (o := { dst := none, op := Op.store 67 (Operand.tmp 2) (Operand.tmp 10), type := 0, pos := "place.go:140", after := #[{ on := 0, ground := Ground.data }, { on := 0, ground := Ground.phase }, { on := 1, ground := Ground.textOnly Departure.lateStores }, { on := 2, ground := Ground.textOnly Departure.lateStores }, { on := 3, ground := Ground.textOnly Departure.lateStoresUnsure }, { on := 4, ground := Ground.textOnly Departure.lateStores }, { on := 5, ground := Ground.textOnly Departure.lateStores }, { on := 6, ground := Ground.textOnly Departure.lateStores }, { on := 7, ground := Ground.textOnly Departure.lateStores }], guard := none }) rfl (fun K hK => ?_) (AllReadyH.nil)
      rw [if_pos (by rfl)]
      refine wp_store_g 67 (.tmp 2) (.tmp 10) rfl rfl w.heap.size 0 ZP ZP rfl rfl _ _ hHeld.1 (by show 0 + 4 ≤ 4; decide) (by kernel_rfl) (by kernel_rfl) (by kernel_rfl) ?_
      refine hK.out _ _ (s1_st hg hHeld) (fun hHeld2 => ?_)
      clear hK K hHeld; have hHeld := hHeld2; clear hHeld2
      try simp only [Act.put, List.setIfInBounds_toArray, List.set_cons_zero, List.set_cons_succ]
      refine wpAnyH_take (i := 9) (oi := { dst := some 3, op := Op.assign (Operand.tmp 17), type := 3, pos := "place.go:140", after := #[{ on := 7, ground := Ground.data }, { on := 8, ground := Ground.chain }, { on := 0, ground := Ground.phase }, { on := 1, ground := Ground.phase }, { on := 2, ground := Ground.phase }, { on := 3, ground := Ground.phase }, { on := 4, ground := Ground.phase }, { on := 5, ground := Ground.phase }, { on := 6, ground := Ground.phase }, { on := 7, ground := Ground.phase }, { on := 8, ground := Ground.phase }], guard := none }) (v := ?_) rfl (by kernel_rfl) (by kernel_rfl) (by kernel_rfl) (fun _ _ _ h => h) (Or.inl ⟨by rfl, ?_⟩) hHeld ?_
      rotate_left
      · intro w hSw
        try dsimp only at hSw
        go_simp
        try with_reducible rfl
      try simp only [Act.put, List.setIfInBounds_toArray, List.set_cons_zero, List.set_cons_succ]
      refine wpAnyH_take (i := 10) (oi := { dst := some 4, op := Op.assign (Operand.const (Value.int IntKind.i64 5)), type := 25, pos := "place.go:140", after := #[{ on := 9, ground := Ground.chain }, { on := 0, ground := Ground.phase }, { on := 1, ground := Ground.phase }, { on := 2, ground := Ground.phase }, { on := 3, ground := Ground.phase }, { on := 4, ground := Ground.phase }, { on := 5, ground := Ground.phase }, { on := 6, ground := Ground.phase }, { on := 7, ground := Ground.phase }, { on := 8, ground := Ground.phase }, { on := 9, ground := Ground.phase }], guard := none }) (v := ?_) rfl (by kernel_rfl) (by kernel_rfl) (by kernel_rfl) (fun _ _ _ h => h) (Or.inl ⟨by rfl, ?_⟩) hHeld ?_
      rotate_left
      · intro w hSw
        try dsimp only at hSw
        go_simp
        try with_reducible rfl
      try simp only [Act.put, List.setIfInBounds_toArray, List.set_cons_zero, List.set_cons_succ]
      refine wpAnyH_done (by kernel_rfl) ?_ _
      obtain ⟨z1, -, z3⟩ := hHeld
      go_wp2_with fail
      try simp only [Exit.inBlock, Exit.then]
      exact bodyPost_ret (results_p3 (p := 2) (q := 3) (r := 4) rfl _ _ _ _ _ _ _ rfl rfl rfl z1 rfl) rfl (prp_bad HE.out z3)
    · clear hR ht hl h3
      go_upto_region 2 with fail
      have ZZ := Lib.hid (show Blk (w.alloc (.cells ZP 67)).drew w.heap.size 67 ZP ∧ (w.alloc (.cells ZP 67)).drew.cell? ⟨g, 3, none⟩ = some (.int .i64 (col : Int)) ∧ Below w.heap.size w (w.alloc (.cells ZP 67)).drew from ⟨x1, c1, b1.drew⟩)
      refine wp_region_held_drew (S := fun w' => Blk w' w.heap.size 67 ZP ∧ w'.cell? ⟨g, 3, none⟩ = some (.int .i64 (col : Int)) ∧ Below w.heap.size w w') (by kernel_rfl) (ZZ.out) (fun hHeld => ?_)
      refine wpAnyH_take (i := 0) (oi := { dst := some 10, op := Op.build 67 #[], type := 67, pos := "place.go:140", after := #[], guard := none }) (v := ?_) rfl (by kernel_rfl) (by kernel_rfl) (by kernel_rfl) (fun _ _ _ h => h) (Or.inl ⟨by rfl, ?_⟩) hHeld ?_
      rotate_left
      · intro w hSw
        try dsimp only at hSw
        go_simp
        try with_reducible rfl
      try simp only [Act.put, List.setIfInBounds_toArray, List.set_cons_zero, List.set_cons_succ]
      refine wpAnyH_take (i := 1) (oi := { dst := some 11, op := Op.move (Operand.tmp 0), type := 108, pos := "place.go:140", after := #[{ on := 8, ground := Ground.gcOnly Departure.lateStores }], guard := none }) (v := ?_) rfl (by kernel_rfl) (by kernel_rfl) (by kernel_rfl) (fun _ _ _ h => h) (Or.inl ⟨by rfl, ?_⟩) hHeld ?_
      rotate_left
      · intro w hSw
        try dsimp only at hSw
        go_simp
        try with_reducible rfl
      try simp only [Act.put, List.setIfInBounds_toArray, List.set_cons_zero, List.set_cons_succ]
      refine wpAnyH_take (i := 2) (oi := { dst := some 12, op := Op.move (Operand.tmp 0), type := 108, pos := "place.go:140", after := #[], guard := none }) (v := ?_) rfl (by kernel_rfl) (by kernel_rfl) (by kernel_rfl) (fun _ _ _ h => h) (Or.inl ⟨by rfl, ?_⟩) hHeld ?_
      rotate_left
      · intro w hSw
        try dsimp only at hSw
        go_simp
        try with_reducible rfl
      try simp only [Act.put, List.setIfInBounds_toArray, List.set_cons_zero, List.set_cons_succ]
      refine wpAnyH_take (i := 3) (oi := { dst := some 13, op := Op.call { callee := Callee.builtin Builtin.len, args := #[Operand.tmp 12], argTypes := #[108] }, type := 3, pos := "place.go:140", after := #[{ on := 2, ground := Ground.data }], guard := none }) (v := ?_) rfl (by kernel_rfl) (by kernel_rfl) (by kernel_rfl) (fun _ _ _ h => h) (Or.inl ⟨by rfl, ?_⟩) hHeld ?_
      rotate_left
      · intro w hSw
        try dsimp only at hSw
        go_simp
        try with_reducible rfl
      try simp only [Act.put, List.setIfInBounds_toArray, List.set_cons_zero, List.set_cons_succ]
      refine wpAnyH_take (i := 4) (oi := { dst := some 14, op := Op.binOp BinOp.sub 3 (Operand.tmp 13) (Operand.const (Value.int IntKind.i64 1)) 3, type := 3, pos := "place.go:140", after := #[{ on := 3, ground := Ground.data }, { on := 8, ground := Ground.gcOnly Departure.lateStores }], guard := none }) (v := ?_) rfl (by kernel_rfl) (by kernel_rfl) (by kernel_rfl) (fun _ _ _ h => h) (Or.inl ⟨by rfl, ?_⟩) hHeld ?_
      rotate_left
      · intro w hSw
        try dsimp only at hSw
        go_simp
        try with_reducible rfl
      try simp only [Act.put, List.setIfInBounds_toArray, List.set_cons_zero, List.set_cons_succ]
      refine wpAnyH_take (i := 5) (oi := { dst := some 15, op := Op.indexAddr 108 (Operand.tmp 11) (Operand.tmp 14), type := 0, pos := "place.go:140", after := #[{ on := 1, ground := Ground.data }, { on := 4, ground := Ground.data }, { on := 8, ground := Ground.gcOnly Departure.lateStores }], guard := none }) (v := ?_) rfl (by kernel_rfl) (by kernel_rfl) (by kernel_rfl) (fun _ _ _ h => h) (Or.inl ⟨by rfl, ?_⟩) hHeld ?_
      rotate_left
      · intro w hSw
        try dsimp only at hSw
        go_simp
        try with_reducible rfl
      try simp only [Act.put, List.setIfInBounds_toArray, List.set_cons_zero, List.set_cons_succ]
      refine wpAnyH_take (i := 6) (oi := { dst := some 16, op := Op.fieldAddr 114 (Operand.tmp 15) 1, type := 0, pos := "place.go:140", after := #[{ on := 5, ground := Ground.data }, { on := 8, ground := Ground.gcOnly Departure.lateStores }], guard := none }) (v := ?_) rfl (by kernel_rfl) (by kernel_rfl) (by kernel_rfl) (fun _ _ _ h => h) (Or.inl ⟨by rfl, ?_⟩) hHeld ?_
      rotate_left
      · intro w hSw
        try dsimp only at hSw
        go_simp
        try with_reducible rfl
      try simp only [Act.put, List.setIfInBounds_toArray, List.set_cons_zero, List.set_cons_succ]
      refine wpAnyH_take (i := 7) (oi := { dst := some 17, op := Op.load 3 (Operand.tmp 16), type := 3, pos := "place.go:140", after := #[{ on := 6, ground := Ground.data }, { on := 8, ground := Ground.gcOnly Departure.lateStores }], guard := none }) (v := ?_) rfl (by kernel_rfl) (by kernel_rfl) (by kernel_rfl) (fun _ _ _ h => h) (Or.inl ⟨by rfl, ?_⟩) hHeld ?_
      rotate_left
      · intro w hSw
        try dsimp only at hSw
        go_simp
        try with_reducible rfl
      try simp only [Act.put, List.setIfInBounds_toArray, List.set_cons_zero, List.set_cons_succ]
      refine wpAnyH_ready (rs := [8]) (by kernel_rfl) (by simp) ?_
      refine AllReadyH.cons (o := { dst := none, op := Op.store 67 (Operand.tmp 2) (Operand.tmp 10), type := 0, pos := "place.go:140", after := #[{ on := 0, ground := Ground.data }, { on := 0, ground := Ground.phase }, { on := 1, ground := Ground.textOnly Departure.lateStores }, { on := 2, ground := Ground.textOnly Departure.lateStores }, { on := 3, ground := Ground.textOnly Departure.lateStoresUnsure }, { on := 4, ground := Ground.textOnly Departure.lateStores }, { on := 5, ground := Ground.textOnly Departure.lateStores }, { on := 6, ground := Ground.textOnly Departure.lateStores }, { on := 7, ground := Ground.textOnly Departure.lateStores }], guard := none }) rfl (fun K hK => ?_) (AllReadyH.nil)
      rw [if_pos (by rfl)]
      refine wp_store_g 67 (.tmp 2) (.tmp 10) rfl rfl w.heap.size 0 ZP ZP rfl rfl _ _ hHeld.1 (by show 0 + 4 ≤ 4; decide) (by kernel_rfl) (by kernel_rfl) (by kernel_rfl) ?_
      refine hK.out _ _ (s1_st hg hHeld) (fun hHeld2 => ?_)
      clear hK K hHeld; have hHeld := hHeld2; clear hHeld2
      try simp only [Act.put, List.setIfInBounds_toArray, List.set_cons_zero, List.set_cons_succ]
      refine wpAnyH_take (i := 9) (oi := { dst := some 3, op := Op.assign (Operand.tmp 17), type := 3, pos := "place.go:140", after := #[{ on := 7, ground := Ground.data }, { on := 8, ground := Ground.chain }, { on := 0, ground := Ground.phase }, { on := 1, ground := Ground.phase }, { on := 2, ground := Ground.phase }, { on := 3, ground := Ground.phase }, { on := 4, ground := Ground.phase }, { on := 5, ground := Ground.phase }, { on := 6, ground := Ground.phase }, { on := 7, ground := Ground.phase }, { on := 8, ground := Ground.phase }], guard := none }) (v := ?_) rfl (by kernel_rfl) (by kernel_rfl) (by kernel_rfl) (fun _ _ _ h => h) (Or.inl ⟨by rfl, ?_⟩) hHeld ?_
      rotate_left
      · intro w hSw
        try dsimp only at hSw
        go_simp
        try with_reducible rfl
      try simp only [Act.put, List.setIfInBounds_toArray, List.set_cons_zero, List.set_cons_succ]
      refine wpAnyH_take (i := 10) (oi := { dst := some 4, op := Op.assign (Operand.const (Value.int IntKind.i64 5)), type := 25, pos := "place.go:140", after := #[{ on := 9, ground := Ground.chain }, { on := 0, ground := Ground.phase }, { on := 1, ground := Ground.phase }, { on := 2, ground := Ground.phase }, { on := 3, ground := Ground.phase }, { on := 4, ground := Ground.phase }, { on := 5, ground := Ground.phase }, { on := 6, ground := Ground.phase }, { on := 7, ground := Ground.phase }, { on := 8, ground := Ground.phase }, { on := 9, ground := Ground.phase }], guard := none }) (v := ?_) rfl (by kernel_rfl) (by kernel_rfl) (by kernel_rfl) (fun _ _ _ h => h) (Or.inl ⟨by rfl, ?_⟩) hHeld ?_
      rotate_left
      · intro w hSw
        try dsimp only at hSw
        go_simp
        try with_reducible rfl
      try simp only [Act.put, List.setIfInBounds_toArray, List.set_cons_zero, List.set_cons_succ]
      refine wpAnyH_done (by kernel_rfl) ?_ _
      obtain ⟨z1, -, z3⟩ := hHeld
      go_wp2_with fail
      try simp only [Exit.inBlock, Exit.then]
      exact bodyPost_ret (results_p3 (p := 2) (q := 3) (r := 4) rfl _ _ _ _ _ _ _ rfl rfl rfl z1 rfl) rfl (prp_bad HE.out z3)
  · have h3' : ¬ (n : Int) < 3 := by omega
    have k0 : (0 : Int) < (n : Int) := by omega
    have k1 : (1 : Int) < (n : Int) := by omega
    have k2 : (2 : Int) < (n : Int) := by omega
    have hm : ∀ k, k < 3 → (fl_ l k).1.length ≤ 2048 := fun k hk => by
      refine ht _ ?_
      show l.getD k _ ∈ l
      rw [List.getD_eq_getElem?_getD, List.getElem?_eq_getElem (by omega)]; exact List.getElem_mem (by omega)
    have m0 := hm 0 (by decide); have m1 := hm 1 (by decide); have m2 := hm 2 (by decide)
    have HF := Lib.hid (fun (W : World) (hb : Below w.heap.size w W) => fc3 (hR.below hb) hl (show 2 < n by omega))
    have P2 := Lib.hid (fun q => prs_2 (l := l) (by rw [hl]; exact h3) q)
    have P3 := Lib.hid (fun q q2 => prs_3 (l := l) (by rw [hl]; exact h3) q q2)
    have P4 := Lib.hid (fun q q2 q3 => prs_4 (l := l) (by rw [hl]; exact h3) q q2 q3)
    have P5 := Lib.hid (fun q q2 q3 => prs_5 (l := l) (by rw [hl]; exact h3) q q2 q3)
    have hT := fun W => terr_any (B (fl_ l 0).1) W (by rw [B_len]; unfold maxLen; omega)
    have hP := fun W => point_at (B (fl_ l 1).1) W
    have hN := fun W => name_any (B (fl_ l 2).1) W (by rw [B_len]; unfold maxLen; omega)
    simp only [L_B] at hP
    generalize prs l = R at *
    clear hR ht hl h3 hm
    obtain ⟨f0, e0⟩ : ∃ f, fl_ l 0 = f := ⟨_, rfl⟩
    obtain ⟨f1, e1⟩ : ∃ f, fl_ l 1 = f := ⟨_, rfl⟩
    obtain ⟨f2, e2⟩ : ∃ f, fl_ l 2 = f := ⟨_, rfl⟩
    simp only [e0, e1, e2] at HF P2 P3 P4 P5 hT hP hN m0 m1 m2
    clear e0 e1 e2
    obtain ⟨⟨-, c1⟩, -⟩ := HF.out _ b1
    obtain ⟨⟨a0, -⟩, ⟨a2, -⟩, a4, -⟩ := HF.out _ (Below.refl _ _)
    go_enter Try.func70, Try.ntmps70
    cases hq : ttB (B f0.1) with
    | false =>
      have HE := Lib.hid (P2.out hq)
      rw [hq] at hT
      clear hq P2 P3 P4 P5 HF hP hN
      go_wp2_with fail
      refine (hT _).mono ?_; rintro e w1 ⟨rfl, rfl⟩
      go_upto_region 4 with fail
      have ZZ := Lib.hid (show Blk (w.alloc (.cells ZP 67)).drew w.heap.size 67 ZP ∧ (w.alloc (.cells ZP 67)).drew.cell? ⟨g, 1, none⟩ = some (.int .i64 (f0.2 : Int)) ∧ Below w.heap.size w (w.alloc (.cells ZP 67)).drew from ⟨x1, c1, b1.drew⟩)
      refine wp_region_held_drew (S := fun w' => Blk w' w.heap.size 67 ZP ∧ w'.cell? ⟨g, 1, none⟩ = some (.int .i64 (f0.2 : Int)) ∧ Below w.heap.size w w') (by kernel_rfl) (ZZ.out) (fun hHeld => ?_)
      refine wpAnyH_take (i := 0) (oi := { dst := some 24, op := Op.build 67 #[], type := 67, pos := "place.go:143", after := #[], guard := none }) (v := ?_) rfl (by kernel_rfl) (by kernel_rfl) (by kernel_rfl) (fun _ _ _ h => h) (Or.inl ⟨by rfl, ?_⟩) hHeld ?_
      rotate_left
      · intro w hSw
        try dsimp only at hSw
        go_simp
        try with_reducible rfl
      try simp only [Act.put, List.setIfInBounds_toArray, List.set_cons_zero, List.set_cons_succ]
      refine wpAnyH_take (i := 1) (oi := { dst := some 25, op := Op.move (Operand.tmp 0), type := 108, pos := "place.go:143", after := #[{ on := 5, ground := Ground.gcOnly Departure.lateStores }], guard := none }) (v := ?_) rfl (by kernel_rfl) (by kernel_rfl) (by kernel_rfl) (fun _ _ _ h => h) (Or.inl ⟨by rfl, ?_⟩) hHeld ?_
      rotate_left
      · intro w hSw
        try dsimp only at hSw
        go_simp
        try with_reducible rfl
      try simp only [Act.put, List.setIfInBounds_toArray, List.set_cons_zero, List.set_cons_succ]
      refine wpAnyH_take (i := 2) (oi := { dst := some 26, op := Op.indexAddr 108 (Operand.tmp 25) (Operand.const (Value.int IntKind.i64 0)), type := 0, pos := "place.go:143", after := #[{ on := 1, ground := Ground.data }, { on := 5, ground := Ground.gcOnly Departure.lateStores }], guard := none }) (v := ?_) rfl (by kernel_rfl) (by kernel_rfl) (by kernel_rfl) (fun _ _ _ h => h) (Or.inl ⟨by rfl, ?_⟩) hHeld ?_
      rotate_left
      · intro w hSw
        try dsimp only at hSw
        go_simp
        try with_reducible rfl
      try simp only [Act.put, List.setIfInBounds_toArray, List.set_cons_zero, List.set_cons_succ]
      refine wpAnyH_take (i := 3) (oi := { dst := some 27, op := Op.fieldAddr 114 (Operand.tmp 26) 1, type := 0, pos := "place.go:143", after := #[{ on := 2, ground := Ground.data }, { on := 5, ground := Ground.gcOnly Departure.lateStores }], guard := none }) (v := ?_) rfl (by kernel_rfl) (by kernel_rfl) (by kernel_rfl) (fun _ _ _ h => h) (Or.inl ⟨by rfl, ?_⟩) hHeld ?_
      rotate_left
      · intro w hSw
        try dsimp only at hSw
        go_simp
        try with_reducible rfl
      try simp only [Act.put, List.setIfInBounds_toArray, List.set_cons_zero, List.set_cons_succ]
      refine wpAnyH_take (i := 4) (oi := { dst := some 28, op := Op.load 3 (Operand.tmp 27), type := 3, pos := "place.go:143", after := #[{ on := 3, ground := Ground.data }, { on := 5, ground := Ground.gcOnly Departure.lateStores }], guard := none }) (v := ?_) rfl (by kernel_rfl) (by kernel_rfl) (by kernel_rfl) (fun _ _ _ h => h) (Or.inl ⟨by rfl, ?_⟩) hHeld ?_
      rotate_left
      · intro w hSw
        try dsimp only at hSw
        go_simp
        try with_reducible rfl
      try simp only [Act.put, List.setIfInBounds_toArray, List.set_cons_zero, List.set_cons_succ]
      refine wpAnyH_ready (rs := [5]) (by kernel_rfl) (by simp) ?_
      refine AllReadyH.cons (o := { dst := none, op := Op.store 67 (Operand.tmp 2) (Operand.tmp 24), type := 0, pos := "place.go:143", after := #[{ on := 0, ground := Ground.data }, { on := 0, ground := Ground.phase }, { on := 1, ground := Ground.textOnly Departure.lateStores }, { on := 2, ground := Ground.textOnly Departure.lateStores }, { on := 3, ground := Ground.textOnly Departure.lateStores }, { on := 4, ground := Ground.textOnly Departure.lateStores }], guard := none }) rfl (fun K hK => ?_) (AllReadyH.nil)
      rw [if_pos (by rfl)]
      refine wp_store_g 67 (.tmp 2) (.tmp 24) rfl rfl w.heap.size 0 ZP ZP rfl rfl _ _ hHeld.1 (by show 0 + 4 ≤ 4; decide) (by kernel_rfl) (by kernel_rfl) (by kernel_rfl) ?_
      refine hK.out _ _ (s1_st hg hHeld) (fun hHeld2 => ?_)
      clear hK K hHeld; have hHeld := hHeld2; clear hHeld2
      try simp only [Act.put, List.setIfInBounds_toArray, List.set_cons_zero, List.set_cons_succ]
      refine wpAnyH_take (i := 6) (oi := { dst := some 3, op := Op.assign (Operand.tmp 28), type := 3, pos := "place.go:143", after := #[{ on := 4, ground := Ground.data }, { on := 5, ground := Ground.chain }, { on := 0, ground := Ground.phase }, { on := 1, ground := Ground.phase }, { on := 2, ground := Ground.phase }, { on := 3, ground := Ground.phase }, { on := 4, ground := Ground.phase }, { on := 5, ground := Ground.phase }], guard := none }) (v := ?_) rfl (by kernel_rfl) (by kernel_rfl) (by kernel_rfl) (fun _ _ _ h => h) (Or.inl ⟨by rfl, ?_⟩) hHeld ?_
      rotate_left
      · intro w hSw
        try dsimp only at hSw
        go_simp
        try with_reducible rfl
      try simp only [Act.put, List.setIfInBounds_toArray, List.set_cons_zero, List.set_cons_succ]
      refine wpAnyH_take (i := 7) (oi := { dst := some 4, op := Op.assign (Operand.const (Value.int IntKind.i64 2)), type := 25, pos := "place.go:143", after := #[{ on := 6, ground := Ground.chain }, { on := 0, ground := Ground.phase }, { on := 1, ground := Ground.phase }, { on := 2, ground := Ground.phase }, { on := 3, ground := Ground.phase }, { on := 4, ground := Ground.phase }, { on := 5, ground := Ground.phase }, { on := 6, ground := Ground.phase }], guard := none }) (v := ?_) rfl (by kernel_rfl) (by kernel_rfl) (by kernel_rfl) (fun _ _ _ h => h) (Or.inl ⟨by rfl, ?_⟩) hHeld ?_
      rotate_left
      · intro w hSw
        try dsimp only at hSw
        go_simp
        try with_reducible rfl
      try simp only [Act.put, List.setIfInBounds_toArray, List.set_cons_zero, List.set_cons_succ]
      refine wpAnyH_done (by kernel_rfl) ?_ _
      obtain ⟨z1, -, z3⟩ := hHeld
      go_wp2_with fail
      try simp only [Exit.inBlock, Exit.then]
      exact bodyPost_ret (results_p3 (p := 2) (q := 3) (r := 4) rfl _ _ _ _ _ _ _ rfl rfl rfl z1 rfl) rfl (prp_bad HE.out z3)
    | true =>
      rw [hq] at hT
      go_wp2_with fail
      refine (hT _).mono ?_; rintro e w1 ⟨rfl, rfl⟩
      clear hT
      go_wp2_with fail
      refine (hP _).mono ?_; rintro e w2 ⟨rfl, hb⟩
      have b2 := b1.trans (hb.mono b1.size); have x2 := x1.below hb x1.lt
      clear a0 a2 a4
      obtain ⟨-, -, a4, -⟩ := HF.out _ b2
      clear b1 x1 hb hP c1
      have hsz2 : w.heap.size < w2.heap.size := x2.lt
      have hgp2 : g < w2.heap.size := by omega
      cases hE : decide (ptE f1.1 = 0) with
      | false =>
        have hne : ptE f1.1 ≠ 0 := of_decide_eq_false hE
        have HE := Lib.hid (P3.out hq hne)
        have hv : (ptE f1.1 != 0) = true := by simp [hne]
        have b3 := b2.alloc b2.size (.cells (ptV f1.1).A 23); have x3 := x2.alloc (.cells (ptV f1.1).A 23)
        have c3 : (w2.alloc (.cells (ptV f1.1).A 23)).cell? ⟨g, 3, none⟩ = some (.int .i64 (f1.2 : Int)) := (HF.out _ b3).2.1.2
        clear hq hne hE P2 P3 P4 P5 HF hN b2 x2 a4
        generalize ptE f1.1 = E at *
        generalize ptV f1.1 = V at *
        go_upto_region 7 with (refine wpList_store_new rfl 23 _ _ rfl rfl w2.heap.size V.A rfl rfl _ #[.int .i64 0, .int .i64 0] w2 rfl rfl rfl (by kernel_rfl) (by kernel_rfl) ?_)
        have ZZ := Lib.hid (show Blk (w2.alloc (.cells V.A 23)).drew w.heap.size 67 ZP ∧ (w2.alloc (.cells V.A 23)).drew.cell? ⟨g, 3, none⟩ = some (.int .i64 (f1.2 : Int)) ∧ Below w.heap.size w (w2.alloc (.cells V.A 23)).drew from ⟨x3, c3, b3.drew⟩)
        refine wp_region_held_drew (S := fun w' => Blk w' w.heap.size 67 ZP ∧ w'.cell? ⟨g, 3, none⟩ = some (.int .i64 (f1.2 : Int)) ∧ Below w.heap.size w w') (by kernel_rfl) (ZZ.out) (fun hHeld => ?_)
        refine wpAnyH_take (i := 0) (oi := { dst := some 39, op := Op.build 67 #[], type := 67, pos := "place.go:147", after := #[], guard := none }) (v := ?_) rfl (by kernel_rfl) (by kernel_rfl) (by kernel_rfl) (fun _ _ _ h => h) (Or.inl ⟨by rfl, ?_⟩) hHeld ?_
        rotate_left
        · intro w hSw
          try dsimp only at hSw
          go_simp
          try with_reducible rfl
        try simp only [Act.put, List.setIfInBounds_toArray, List.set_cons_zero, List.set_cons_succ]
        refine wpAnyH_take (i := 1) (oi := { dst := some 40, op := Op.move (Operand.tmp 0), type := 108, pos := "place.go:147", after := #[{ on := 5, ground := Ground.gcOnly Departure.lateStores }], guard := none }) (v := ?_) rfl (by kernel_rfl) (by kernel_rfl) (by kernel_rfl) (fun _ _ _ h => h) (Or.inl ⟨by rfl, ?_⟩) hHeld ?_
        rotate_left
        · intro w hSw
          try dsimp only at hSw
          go_simp
          try with_reducible rfl
        try simp only [Act.put, List.setIfInBounds_toArray, List.set_cons_zero, List.set_cons_succ]
        refine wpAnyH_take (i := 2) (oi := { dst := some 41, op := Op.indexAddr 108 (Operand.tmp 40) (Operand.const (Value.int IntKind.i64 1)), type := 0, pos := "place.go:147", after := #[{ on := 1, ground := Ground.data }, { on := 5, ground := Ground.gcOnly Departure.lateStores }], guard := none }) (v := ?_) rfl (by kernel_rfl) (by kernel_rfl) (by kernel_rfl) (fun _ _ _ h => h) (Or.inl ⟨by rfl, ?_⟩) hHeld ?_
        rotate_left
        · intro w hSw
          try dsimp only at hSw
          go_simp
          try with_reducible rfl
        try simp only [Act.put, List.setIfInBounds_toArray, List.set_cons_zero, List.set_cons_succ]
        refine wpAnyH_take (i := 3) (oi := { dst := some 42, op := Op.fieldAddr 114 (Operand.tmp 41) 1, type := 0, pos := "place.go:147", after := #[{ on := 2, ground := Ground.data }, { on := 5, ground := Ground.gcOnly Departure.lateStores }], guard := none }) (v := ?_) rfl (by kernel_rfl) (by kernel_rfl) (by kernel_rfl) (fun _ _ _ h => h) (Or.inl ⟨by rfl, ?_⟩) hHeld ?_
        rotate_left
        · intro w hSw
          try dsimp only at hSw
          go_simp
          try with_reducible rfl
        try simp only [Act.put, List.setIfInBounds_toArray, List.set_cons_zero, List.set_cons_succ]
        refine wpAnyH_take (i := 4) (oi := { dst := some 43, op := Op.load 3 (Operand.tmp 42), type := 3, pos := "place.go:147", after := #[{ on := 3, ground := Ground.data }, { on := 5, ground := Ground.gcOnly Departure.lateStores }], guard := none }) (v := ?_) rfl (by kernel_rfl) (by kernel_rfl) (by kernel_rfl) (fun _ _ _ h => h) (Or.inl ⟨by rfl, ?_⟩) hHeld ?_
        rotate_left
        · intro w hSw
          try dsimp only at hSw
          go_simp
          try with_reducible rfl
        try simp only [Act.put, List.setIfInBounds_toArray, List.set_cons_zero, List.set_cons_succ]
        refine wpAnyH_ready (rs := [5]) (by kernel_rfl) (by simp) ?_
        refine AllReadyH.cons (o := { dst := none, op := Op.store 67 (Operand.tmp 2) (Operand.tmp 39), type := 0, pos := "place.go:147", after := #[{ on := 0, ground := Ground.data }, { on := 0, ground := Ground.phase }, { on := 1, ground := Ground.textOnly Departure.lateStores }, { on := 2, ground := Ground.textOnly Departure.lateStores }, { on := 3, ground := Ground.textOnly Departure.lateStores }, { on := 4, ground := Ground.textOnly Departure.lateStores }], guard := none }) rfl (fun K hK => ?_) (AllReadyH.nil)
        rw [if_pos (by rfl)]
        refine wp_store_g 67 (.tmp 2) (.tmp 39) rfl rfl w.heap.size 0 ZP ZP rfl rfl _ _ hHeld.1 (by show 0 + 4 ≤ 4; decide) (by kernel_rfl) (by kernel_rfl) (by kernel_rfl) ?_
        refine hK.out _ _ (s1_st hg hHeld) (fun hHeld2 => ?_)
        clear hK K hHeld; have hHeld := hHeld2; clear hHeld2
        try simp only [Act.put, List.setIfInBounds_toArray, List.set_cons_zero, List.set_cons_succ]
        refine wpAnyH_take (i := 6) (oi := { dst := some 3, op := Op.assign (Operand.tmp 43), type := 3, pos := "place.go:147", after := #[{ on := 4, ground := Ground.data }, { on := 5, ground := Ground.chain }, { on := 0, ground := Ground.phase }, { on := 1, ground := Ground.phase }, { on := 2, ground := Ground.phase }, { on := 3, ground := Ground.phase }, { on := 4, ground := Ground.phase }, { on := 5, ground := Ground.phase }], guard := none }) (v := ?_) rfl (by kernel_rfl) (by kernel_rfl) (by kernel_rfl) (fun _ _ _ h => h) (Or.inl ⟨by rfl, ?_⟩) hHeld ?_
        rotate_left
        · intro w hSw
          try dsimp only at hSw
          go_simp
          try with_reducible rfl
        try simp only [Act.put, List.setIfInBounds_toArray, List.set_cons_zero, List.set_cons_succ]
        refine wpAnyH_take (i := 7) (oi := { dst := some 4, op := Op.assign (Operand.const (Value.int IntKind.i64 4)), type := 25, pos := "place.go:147", after := #[{ on := 6, ground := Ground.chain }, { on := 0, ground := Ground.phase }, { on := 1, ground := Ground.phase }, { on := 2, ground := Ground.phase }, { on := 3, ground := Ground.phase }, { on := 4, ground := Ground.phase }, { on := 5, ground := Ground.phase }, { on := 6, ground := Ground.phase }], guard := none }) (v := ?_) rfl (by kernel_rfl) (by kernel_rfl) (by kernel_rfl) (fun _ _ _ h => h) (Or.inl ⟨by rfl, ?_⟩) hHeld ?_
        rotate_left
        · intro w hSw
          try dsimp only at hSw
          go_simp
          try with_reducible rfl
        try simp only [Act.put, List.setIfInBounds_toArray, List.set_cons_zero, List.set_cons_succ]
        refine wpAnyH_done (by kernel_rfl) ?_ _
        obtain ⟨z1, -, z3⟩ := hHeld
        go_wp2_with fail
        try simp only [Exit.inBlock, Exit.then]
        exact bodyPost_ret (results_p3 (p := 2) (q := 3) (r := 4) rfl _ _ _ _ _ _ _ rfl rfl rfl z1 rfl) rfl (prp_bad HE.out z3)
      | true =>
        have hz : ptE f1.1 = 0 := of_decide_eq_true hE
        have hv : (ptE f1.1 != 0) = false := by simp [hz]
        have b3 := b2.alloc b2.size (.cells (ptV f1.1).A 23); have x3 := x2.alloc (.cells (ptV f1.1).A 23)
        have y3 := Blk.new w2 23 (ptV f1.1).A
        have HP4 := Lib.hid (P4.out hq hz); have HP5 := Lib.hid (P5.out hq hz)
        clear hq hz hE P2 P3 P4 P5 b2 x2
        generalize ptE f1.1 = E at *
        generalize ptV f1.1 = V at *
        go_wp2_with (refine wpList_store_new rfl 23 _ _ rfl rfl w2.heap.size V.A rfl rfl _ #[.int .i64 0, .int .i64 0] w2 rfl rfl rfl (by kernel_rfl) (by kernel_rfl) ?_)
        refine (hN _).mono ?_; rintro e w4 ⟨rfl, hb⟩
        have b4 := b3.trans (hb.mono b3.size); have x4 := x3.below hb x3.lt; have y4 := y3.below hb y3.lt
        obtain ⟨⟨a0, -⟩, -, a4', a5⟩ := HF.out _ b4
        have hgw : g ≠ w.heap.size := by omega
        have hgpw : w2.heap.size ≠ w.heap.size := by omega
        clear b3 x3 y3 hb hN a4
        generalize w2.heap.size = gp at *
        cases hn2 : nmB (B f2.1) with
        | false =>
          have HE := Lib.hid (HP4.out hn2)
          clear hn2 HP4 HP5 HF
          go_upto_region 9 with fail
          have ZZ := Lib.hid (show Blk w4.drew w.heap.size 67 ZP ∧ w4.drew.cell? ⟨g, 5, none⟩ = some (.int .i64 (f2.2 : Int)) ∧ Below w.heap.size w w4.drew from ⟨x4, a5, b4.drew⟩)
          refine wp_region_held_drew (S := fun w' => Blk w' w.heap.size 67 ZP ∧ w'.cell? ⟨g, 5, none⟩ = some (.int .i64 (f2.2 : Int)) ∧ Below w.heap.size w w') (by kernel_rfl) (ZZ.out) (fun hHeld => ?_)
          refine wpAnyH_take (i := 0) (oi := { dst := some 50, op := Op.build 67 #[], type := 67, pos := "place.go:150", after := #[], guard := none }) (v := ?_) rfl (by kernel_rfl) (by kernel_rfl) (by kernel_rfl) (fun _ _ _ h => h) (Or.inl ⟨by rfl, ?_⟩) hHeld ?_
          rotate_left
          · intro w hSw
            try dsimp only at hSw
            go_simp
            try with_reducible rfl
          try simp only [Act.put, List.setIfInBounds_toArray, List.set_cons_zero, List.set_cons_succ]
          refine wpAnyH_take (i := 1) (oi := { dst := some 51, op := Op.move (Operand.tmp 0), type := 108, pos := "place.go:150", after := #[{ on := 5, ground := Ground.gcOnly Departure.lateStores }], guard := none }) (v := ?_) rfl (by kernel_rfl) (by kernel_rfl) (by kernel_rfl) (fun _ _ _ h => h) (Or.inl ⟨by rfl, ?_⟩) hHeld ?_
          rotate_left
          · intro w hSw
            try dsimp only at hSw
            go_simp
            try with_reducible rfl
          try simp only [Act.put, List.setIfInBounds_toArray, List.set_cons_zero, List.set_cons_succ]
          refine wpAnyH_take (i := 2) (oi := { dst := some 52, op := Op.indexAddr 108 (Operand.tmp 51) (Operand.const (Value.int IntKind.i64 2)), type := 0, pos := "place.go:150", after := #[{ on := 1, ground := Ground.data }, { on := 5, ground := Ground.gcOnly Departure.lateStores }], guard := none }) (v := ?_) rfl (by kernel_rfl) (by kernel_rfl) (by kernel_rfl) (fun _ _ _ h => h) (Or.inl ⟨by rfl, ?_⟩) hHeld ?_
          rotate_left
          · intro w hSw
            try dsimp only at hSw
            go_simp
            try with_reducible rfl
          try simp only [Act.put, List.setIfInBounds_toArray, List.set_cons_zero, List.set_cons_succ]
          refine wpAnyH_take (i := 3) (oi := { dst := some 53, op := Op.fieldAddr 114 (Operand.tmp 52) 1, type := 0, pos := "place.go:150", after := #[{ on := 2, ground := Ground.data }, { on := 5, ground := Ground.gcOnly Departure.lateStores }], guard := none }) (v := ?_) rfl (by kernel_rfl) (by kernel_rfl) (by kernel_rfl) (fun _ _ _ h => h) (Or.inl ⟨by rfl, ?_⟩) hHeld ?_
          rotate_left
          · intro w hSw
            try dsimp only at hSw
            go_simp
            try with_reducible rfl
          try simp only [Act.put, List.setIfInBounds_toArray, List.set_cons_zero, List.set_cons_succ]
          refine wpAnyH_take (i := 4) (oi := { dst := some 54, op := Op.load 3 (Operand.tmp 53), type := 3, pos := "place.go:150", after := #[{ on := 3, ground := Ground.data }, { on := 5, ground := Ground.gcOnly Departure.lateStores }], guard := none }) (v := ?_) rfl (by kernel_rfl) (by kernel_rfl) (by kernel_rfl) (fun _ _ _ h => h) (Or.inl ⟨by rfl, ?_⟩) hHeld ?_
          rotate_left
          · intro w hSw
            try dsimp only at hSw
            go_simp
            try with_reducible rfl
          try simp only [Act.put, List.setIfInBounds_toArray, List.set_cons_zero, List.set_cons_succ]
          refine wpAnyH_ready (rs := [5]) (by kernel_rfl) (by simp) ?_
          refine AllReadyH.cons (o := { dst := none, op := Op.store 67 (Operand.tmp 2) (Operand.tmp 50), type := 0, pos := "place.go:150", after := #[{ on := 0, ground := Ground.data }, { on := 0, ground := Ground.phase }, { on := 1, ground := Ground.textOnly Departure.lateStores }, { on := 2, ground := Ground.textOnly Departure.lateStores }, { on := 3, ground := Ground.textOnly Departure.lateStores }, { on := 4, ground := Ground.textOnly Departure.lateStores }], guard := none }) rfl (fun K hK => ?_) (AllReadyH.nil)
          rw [if_pos (by rfl)]
          refine wp_store_g 67 (.tmp 2) (.tmp 50) rfl rfl w.heap.size 0 ZP ZP rfl rfl _ _ hHeld.1 (by show 0 + 4 ≤ 4; decide) (by kernel_rfl) (by kernel_rfl) (by kernel_rfl) ?_
          refine hK.out _ _ (s1_st hg hHeld) (fun hHeld2 => ?_)
          clear hK K hHeld; have hHeld := hHeld2; clear hHeld2
          try simp only [Act.put, List.setIfInBounds_toArray, List.set_cons_zero, List.set_cons_succ]
          refine wpAnyH_take (i := 6) (oi := { dst := some 3, op := Op.assign (Operand.tmp 54), type := 3, pos := "place.go:150", after := #[{ on := 4, ground := Ground.data }, { on := 5, ground := Ground.chain }, { on := 0, ground := Ground.phase }, { on := 1, ground := Ground.phase }, { on := 2, ground := Ground.phase }, { on := 3, ground := Ground.phase }, { on := 4, ground := Ground.phase }, { on := 5, ground := Ground.phase }], guard := none }) (v := ?_) rfl (by kernel_rfl) (by kernel_rfl) (by kernel_rfl) (fun _ _ _ h => h) (Or.inl ⟨by rfl, ?_⟩) hHeld ?_
          rotate_left
          · intro w hSw
            try dsimp only at hSw
            go_simp
            try with_reducible rfl
          try simp only [Act.put, List.setIfInBounds_toArray, List.set_cons_zero, List.set_cons_succ]
          refine wpAnyH_take (i := 7) (oi := { dst := some 4, op := Op.assign (Operand.const (Value.int IntKind.i64 7)), type := 25, pos := "place.go:150", after := #[{ on := 6, ground := Ground.chain }, { on := 0, ground := Ground.phase }, { on := 1, ground := Ground.phase }, { on := 2, ground := Ground.phase }, { on := 3, ground := Ground.phase }, { on := 4, ground := Ground.phase }, { on := 5, ground := Ground.phase }, { on := 6, ground := Ground.phase }], guard := none }) (v := ?_) rfl (by kernel_rfl) (by kernel_rfl) (by kernel_rfl) (fun _ _ _ h => h) (Or.inl ⟨by rfl, ?_⟩) hHeld ?_
          rotate_left
          · intro w hSw
            try dsimp only at hSw
            go_simp
            try with_reducible rfl
          try simp only [Act.put, List.setIfInBounds_toArray, List.set_cons_zero, List.set_cons_succ]
          refine wpAnyH_done (by kernel_rfl) ?_ _
          obtain ⟨z1, -, z3⟩ := hHeld
          go_wp2_with fail
          try simp only [Exit.inBlock, Exit.then]
          exact bodyPost_ret (results_p3 (p := 2) (q := 3) (r := 4) rfl _ _ _ _ _ _ _ rfl rfl rfl z1 rfl) rfl (prp_bad HE.out z3)
        | true =>
          have HE := Lib.hid (HP5.out hn2)
          clear hn2 HP4 HP5 HF
          generalize B f0.1 = t0 at *
          generalize B f2.1 = t2 at *
          have x4d : Blk w4.drew w.heap.size 67 ZP := x4
          go_upto_region 10 with fail
          have ZZ := Lib.hid (show w4.drew.cell? ⟨g, 0, none⟩ = some (.string t0) ∧ w4.drew.cell? ⟨g, 4, none⟩ = some (.string t2) ∧ Blk w4.drew gp 23 V.A ∧ ldT 23 (.pointer (some ⟨gp, 0, none⟩)) w4.drew = some V.A ∧ Below w.heap.size w w4.drew from ⟨a0, a4', y4, ldT_of (ld_seg y4.drew Try.underlying23 rfl (by kernel_rfl) (by kernel_rfl)), b4.drew⟩)
          refine wp_region_held_drew (S := fun w' => w'.cell? ⟨g, 0, none⟩ = some (.string t0) ∧ w'.cell? ⟨g, 4, none⟩ = some (.string t2) ∧ Blk w' gp 23 V.A ∧ ldT 23 (.pointer (some ⟨gp, 0, none⟩)) w' = some V.A ∧ Below w.heap.size w w') (by kernel_rfl) (ZZ.out) (fun hHeld => ?_)
          refine wpAnyH_take (i := 0) (oi := { dst := some 55, op := Op.move (Operand.tmp 0), type := 108, pos := "place.go:152", after := #[], guard := none }) (v := ?_) rfl (by kernel_rfl) (by kernel_rfl) (by kernel_rfl) (fun _ _ _ h => h) (Or.inl ⟨by rfl, ?_⟩) hHeld ?_
          rotate_left
          · intro w hSw
            try dsimp only at hSw
            go_simp
            try with_reducible rfl
          try simp only [Act.put, List.setIfInBounds_toArray, List.set_cons_zero, List.set_cons_succ]
          refine wpAnyH_take (i := 1) (oi := { dst := some 56, op := Op.indexAddr 108 (Operand.tmp 55) (Operand.const (Value.int IntKind.i64 0)), type := 0, pos := "place.go:152", after := #[{ on := 0, ground := Ground.data }], guard := none }) (v := ?_) rfl (by kernel_rfl) (by kernel_rfl) (by kernel_rfl) (fun _ _ _ h => h) (Or.inl ⟨by rfl, ?_⟩) hHeld ?_
          rotate_left
          · intro w hSw
            try dsimp only at hSw
            go_simp
            try with_reducible rfl
          try simp only [Act.put, List.setIfInBounds_toArray, List.set_cons_zero, List.set_cons_succ]
          refine wpAnyH_take (i := 2) (oi := { dst := some 57, op := Op.fieldAddr 114 (Operand.tmp 56) 0, type := 0, pos := "place.go:152", after := #[{ on := 1, ground := Ground.data }], guard := none }) (v := ?_) rfl (by kernel_rfl) (by kernel_rfl) (by kernel_rfl) (fun _ _ _ h => h) (Or.inl ⟨by rfl, ?_⟩) hHeld ?_
          rotate_left
          · intro w hSw
            try dsimp only at hSw
            go_simp
            try with_reducible rfl
          try simp only [Act.put, List.setIfInBounds_toArray, List.set_cons_zero, List.set_cons_succ]
          refine wpAnyH_take (i := 3) (oi := { dst := some 58, op := Op.load 9 (Operand.tmp 57), type := 9, pos := "place.go:152", after := #[{ on := 2, ground := Ground.data }], guard := none }) (v := ?_) rfl (by kernel_rfl) (by kernel_rfl) (by kernel_rfl) (fun _ _ _ h => h) (Or.inl ⟨by rfl, ?_⟩) hHeld ?_
          rotate_left
          · intro w hSw
            try dsimp only at hSw
            go_simp
            try with_reducible rfl
          try simp only [Act.put, List.setIfInBounds_toArray, List.set_cons_zero, List.set_cons_succ]
          refine wpAnyH_take (i := 4) (oi := { dst := some 59, op := Op.load 23 (Operand.tmp 5), type := 23, pos := "place.go:152", after := #[], guard := none }) (v := ?_) rfl (by kernel_rfl) (by kernel_rfl) (by kernel_rfl) (fun _ _ _ h => h) (Or.inl ⟨by rfl, ?_⟩) hHeld ?_
          rotate_left
          · intro w hSw
            try dsimp only at hSw
            go_simp
            try with_reducible rfl
          try simp only [Act.put, List.setIfInBounds_toArray, List.set_cons_zero, List.set_cons_succ]
          refine wpAnyH_take (i := 5) (oi := { dst := some 60, op := Op.move (Operand.tmp 0), type := 108, pos := "place.go:152", after := #[], guard := none }) (v := ?_) rfl (by kernel_rfl) (by kernel_rfl) (by kernel_rfl) (fun _ _ _ h => h) (Or.inl ⟨by rfl, ?_⟩) hHeld ?_
          rotate_left
          · intro w hSw
            try dsimp only at hSw
            go_simp
            try with_reducible rfl
          try simp only [Act.put, List.setIfInBounds_toArray, List.set_cons_zero, List.set_cons_succ]
          refine wpAnyH_take (i := 6) (oi := { dst := some 61, op := Op.indexAddr 108 (Operand.tmp 60) (Operand.const (Value.int IntKind.i64 2)), type := 0, pos := "place.go:152", after := #[{ on := 5, ground := Ground.data }], guard := none }) (v := ?_) rfl (by kernel_rfl) (by kernel_rfl) (by kernel_rfl) (fun _ _ _ h => h) (Or.inl ⟨by rfl, ?_⟩) hHeld ?_
          rotate_left
          · intro w hSw
            try dsimp only at hSw
            go_simp
            try with_reducible rfl
          try simp only [Act.put, List.setIfInBounds_toArray, List.set_cons_zero, List.set_cons_succ]
          refine wpAnyH_take (i := 7) (oi := { dst := some 62, op := Op.fieldAddr 114 (Operand.tmp 61) 0, type := 0, pos := "place.go:152", after := #[{ on := 6, ground := Ground.data }], guard := none }) (v := ?_) rfl (by kernel_rfl) (by kernel_rfl) (by kernel_rfl) (fun _ _ _ h => h) (Or.inl ⟨by rfl, ?_⟩) hHeld ?_
          rotate_left
          · intro w hSw
            try dsimp only at hSw
            go_simp
            try with_reducible rfl
          try simp only [Act.put, List.setIfInBounds_toArray, List.set_cons_zero, List.set_cons_succ]
          refine wpAnyH_take (i := 8) (oi := { dst := some 63, op := Op.load 9 (Operand.tmp 62), type := 9, pos := "place.go:152", after := #[{ on := 7, ground := Ground.data }], guard := none }) (v := ?_) rfl (by kernel_rfl) (by kernel_rfl) (by kernel_rfl) (fun _ _ _ h => h) (Or.inl ⟨by rfl, ?_⟩) hHeld ?_
          rotate_left
          · intro w hSw
            try dsimp only at hSw
            go_simp
            try with_reducible rfl
          try simp only [Act.put, List.setIfInBounds_toArray, List.set_cons_zero, List.set_cons_succ]
          refine wpAnyH_take (i := 9) (oi := { dst := some 64, op := Op.build 67 #[(0, Operand.tmp 58), (1, Operand.tmp 59), (2, Operand.tmp 63)], type := 67, pos := "place.go:152", after := #[{ on := 3, ground := Ground.data }, { on := 4, ground := Ground.data }, { on := 8, ground := Ground.data }], guard := none }) (v := ?_) rfl (by kernel_rfl) (by kernel_rfl) (by kernel_rfl) (fun _ _ _ h => h) (Or.inl ⟨by rfl, ?_⟩) hHeld ?_
          rotate_left
          · intro w hSw
            try dsimp only at hSw
            go_simp
            try with_reducible rfl
          try simp only [Act.put, List.setIfInBounds_toArray, List.set_cons_zero, List.set_cons_succ]
          refine wpAnyH_ready (rs := [10]) (by kernel_rfl) (by simp) ?_
          refine AllReadyH.cons (o := { dst := none, op := Op.store 67 (Operand.tmp 2) (Operand.tmp 64), type := 0, pos := "place.go:152", after := #[{ on := 9, ground := Ground.data }, { on := 0, ground := Ground.phase }, { on := 1, ground := Ground.phase }, { on := 2, ground := Ground.phase }, { on := 3, ground := Ground.phase }, { on := 4, ground := Ground.phase }, { on := 5, ground := Ground.phase }, { on := 6, ground := Ground.phase }, { on := 7, ground := Ground.phase }, { on := 8, ground := Ground.phase }, { on := 9, ground := Ground.phase }], guard := none }) rfl (fun K hK => ?_) (AllReadyH.nil)
          rw [if_pos (by rfl)]
          refine wp_store_g 67 (.tmp 2) (.tmp 64) rfl rfl w.heap.size 0 (Pc.C ⟨t0, V, t2⟩) (Pc.C ⟨t0, V, t2⟩) rfl rfl _ _ x4d (by show 0 + 4 ≤ 4; decide) (by kernel_rfl) (by kernel_rfl) (by kernel_rfl) ?_
          refine hK.out _ _ (s10_st hgw hgpw hHeld) (fun hHeld2 => ?_)
          clear hK K hHeld; have hHeld := hHeld2; clear hHeld2
          try simp only [Act.put, List.setIfInBounds_toArray, List.set_cons_zero, List.set_cons_succ]
          refine wpAnyH_take (i := 11) (oi := { dst := some 3, op := Op.assign (Operand.const (Value.int IntKind.i64 0)), type := 3, pos := "place.go:152", after := #[{ on := 10, ground := Ground.chain }, { on := 0, ground := Ground.phase }, { on := 1, ground := Ground.phase }, { on := 2, ground := Ground.phase }, { on := 3, ground := Ground.phase }, { on := 4, ground := Ground.phase }, { on := 5, ground := Ground.phase }, { on := 6, ground := Ground.phase }, { on := 7, ground := Ground.phase }, { on := 8, ground := Ground.phase }, { on := 9, ground := Ground.phase }, { on := 10, ground := Ground.phase }], guard := none }) (v := ?_) rfl (by kernel_rfl) (by kernel_rfl) (by kernel_rfl) (fun _ _ _ h => h) (Or.inl ⟨by rfl, ?_⟩) hHeld ?_
          rotate_left
          · intro w hSw
            try dsimp only at hSw
            go_simp
            try with_reducible rfl
          try simp only [Act.put, List.setIfInBounds_toArray, List.set_cons_zero, List.set_cons_succ]
          refine wpAnyH_take (i := 12) (oi := { dst := some 4, op := Op.assign (Operand.const (Value.int IntKind.i64 0)), type := 25, pos := "place.go:152", after := #[{ on := 11, ground := Ground.chain }, { on := 0, ground := Ground.phase }, { on := 1, ground := Ground.phase }, { on := 2, ground := Ground.phase }, { on := 3, ground := Ground.phase }, { on := 4, ground := Ground.phase }, { on := 5, ground := Ground.phase }, { on := 6, ground := Ground.phase }, { on := 7, ground := Ground.phase }, { on := 8, ground := Ground.phase }, { on := 9, ground := Ground.phase }, { on := 10, ground := Ground.phase }, { on := 11, ground := Ground.phase }], guard := none }) (v := ?_) rfl (by kernel_rfl) (by kernel_rfl) (by kernel_rfl) (fun _ _ _ h => h) (Or.inl ⟨by rfl, ?_⟩) hHeld ?_
          rotate_left
          · intro w hSw
            try dsimp only at hSw
            go_simp
            try with_reducible rfl
          try simp only [Act.put, List.setIfInBounds_toArray, List.set_cons_zero, List.set_cons_succ]
          refine wpAnyH_done (by kernel_rfl) ?_ _
          obtain ⟨-, -, -, -, z5⟩ := hHeld
          go_wp2_with fail
          try simp only [Exit.inBlock, Exit.then]
          exact bodyPost_ret (results_p3 (p := 2) (q := 3) (r := 4) rfl _ _ _ _ _ _ _ rfl rfl rfl (x4d.row (Pc.C ⟨t0, V, t2⟩)) rfl) rfl (prp_ok HE.out z5)
end Go.Proofs.Ytoiccljmdplfgaa.Nr
