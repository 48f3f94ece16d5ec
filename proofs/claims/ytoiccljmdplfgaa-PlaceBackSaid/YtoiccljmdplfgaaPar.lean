/-
  place.Parse, walked: the places that a text tells, or the fault.
-/
import Derived.Test.YtoiccljmdplfgaaPrs
import Derived.Deep.RegionHeld3
namespace Go.Proofs.Ytoiccljmdplfgaa.Nr
open Go.ChangeShapes Go.WideShapes Go.ChangeAt Go.RowKit Go.Shelf
open Go.Proofs.Ytoiccljmdplfgaa
open Go.Proofs.Ytoiccljmdplfgaa.Wd
open Go.Proofs.Ytoiccljmdplfgaa.Pl
open Go.Proofs.Ytoiccljmdplfgaa.Nv
open Go.Proofs.Ytoiccljmdplfgaa.Ld
open Go.Proofs.Ytoiccljmdplfgaa.Sl (wp_store_g getD_mem)
open Go.Proofs.Ytoiccljmdplfgaa.Pt (L B ptE ptV point_at V1 own_ge own_bel)
open Go.Proofs.Ytoiccljmdplfgaa.Scn (Fl FR flA flatF B_len L_B Ln Lines lp LR lnV lnV_fine lnV_txt LnP lines_any faV faC results_sf own_row own_formP own_form own_nil)
set_option linter.unusedVariables false
set_option linter.unusedSimpArgs false
attribute [local go_sem ↓] Go.wp_at_zero Go.wp_at_succ
attribute [local go_sem ↓] ldP_sem
attribute [local go_sem] ldSem_run
theorem ldFa_sem (v : Value) : Instr.loadAt 55 v = ldSem 55 v := rfl
attribute [local go_sem ↓] ldFa_sem
inductive PA where
  | ok (l : List Pc)
  | bad (ln col : Nat) (y : Int)
/-- the places of what is left of a text's lines -/
def pars : List (Nat × List Fl) → List Pc → PA
  | [], acc => .ok acc
  | x :: r, acc => match prs x.2 with
    | .bad c y => .bad x.1 c y
    | .ok a => if 4096 ≤ acc.length then .bad x.1 (fl_ x.2 0).2 6 else pars r (acc ++ [a])
/-- the places that a text tells, or the fault -/
def parV (t : List UInt8) : PA := match lnV t with
  | .bad n c y => .bad n c y
  | .ok l => pars l []
def PaP (R : PA) (w : World) (e : Ending) (w' : World) : Prop :=
  Below w.heap.size w w' ∧ match R with
    | .ok L => ∃ A n c, e = .returned (.tuple #[.slice A n c, faV 0 0 0]) ∧ Pcs w' w'.heap.size A n L
    | .bad ln c y => e = .returned (.tuple #[.slice none 0 0, faV (ln : Int) (c : Int) y])
theorem pap_bad {R : PA} {w w' : World} {ln c : Nat} {y : Int} (h : R = .bad ln c y) (hb : Below w.heap.size w w') : PaP R w (.returned (.tuple #[.slice none 0 0, .agg (faC (ln : Int) (c : Int) y)])) w' := by subst h; exact ⟨hb, rfl⟩
theorem _root_.Go.Proofs.Ytoiccljmdplfgaa.Scn.Lines.at_ {w w' : World} {A : Option Addr} {n : Nat} {l : List Ln} (h : Lines w w.heap.size A n l) (hb : Below w.heap.size w w') : Lines w' w'.heap.size A n l :=
  ⟨(h.s.below hb).more hb.size, fun x hx => ((h.f x hx).below hb).more hb.size⟩
theorem fl_len {l : List Fl} (h : ∀ f ∈ l, f.1.length ≤ 2048) (j : Nat) : (fl_ l j).1.length ≤ maxLen := by
  have : (fl_ l j).1.length ≤ 2048 := by
    show (l.getD j _).1.length ≤ _
    rw [List.getD_eq_getElem?_getD]
    rcases Nat.lt_or_ge j l.length with q | q
    · rw [List.getElem?_eq_getElem q]; exact h _ (List.getElem_mem q)
    · rw [List.getElem?_eq_none q]; exact Nat.zero_le _
  unfold maxLen; omega
theorem lp_drop {LS : List Ln} {k : Nat} (h : k < LS.length) : (lp LS).drop k = ((LS.getD k Ln.nil).no, (LS.getD k Ln.nil).fs) :: (lp LS).drop (k + 1) := by
  have h' : k < (lp LS).length := by rw [List.length_map]; exact h
  rw [List.drop_eq_getElem_cons h']
  congr 1
  rw [List.getElem_map, List.getD_eq_getElem?_getD, List.getElem?_eq_getElem h]; rfl
theorem pc_one (a : Pc) : ∀ u ∈ a.C.toList, u.oneCell' = true := by
  intro u hu; simp at hu; rcases hu with rfl | rfl | rfl | rfl <;> rfl
theorem reads_pc (w : World) (t : TypeId) (a : Pc) : Reads (w.alloc (.cells a.C t)) (w.heap.size + 1) 4 (some ⟨w.heap.size, 0, none⟩) 1 a.C.toList :=
  ⟨rfl, fun _ => ⟨_, rfl, Nat.lt_succ_self _, fun j u hu => by
    match j, hu with
    | 0, hu => simp at hu; subst hu; simp [Addr.add]
    | 1, hu => simp at hu; subst hu; simp [Addr.add]
    | 2, hu => simp at hu; subst hu; simp [Addr.add]
    | 3, hu => simp at hu; subst hu; simp [Addr.add]⟩⟩
theorem flC_app (l m : List Pc) : flatC (l ++ m) = flatC l ++ flatC m := by
  induction l with
  | nil => rfl
  | cons r t ih => show r.C.toList ++ flatC (t ++ m) = (r.C.toList ++ flatC t) ++ flatC m; rw [ih, List.append_assoc]
theorem pl_inf : (Try.prog.info? 67).map (fun i => (i.zero, i.size, i.bytes)) = some (some (.agg ZP), 4, 48) := by kernel_rfl
theorem s3_st {w W : World} {g5 ln c : Nat} {y : Int} {cs : Array Value} (h : g5 ≠ w.heap.size) (k : Blk W g5 55 (faC (ln : Int) (c : Int) y) ∧ ldT 55 (.pointer (some ⟨g5, 0, none⟩)) W = some (faC (ln : Int) (c : Int) y) ∧ Below w.heap.size w W) :
    Blk (W.setRow w.heap.size cs) g5 55 (faC (ln : Int) (c : Int) y) ∧ ldT 55 (.pointer (some ⟨g5, 0, none⟩)) (W.setRow w.heap.size cs) = some (faC (ln : Int) (c : Int) y) ∧ Below w.heap.size w (W.setRow w.heap.size cs) := by
  obtain ⟨k1, -, k3⟩ := k
  have k1' := k1.rowFar h cs
  exact ⟨k1', ldT_of (ld_seg k1' Try.underlying55 rfl (by kernel_rfl) (by kernel_rfl)), below_row k3 (Nat.le_refl _) _⟩
theorem s12_st {w W : World} {g8 no : Nat} {cs : Array Value} (h : g8 ≠ w.heap.size) (k : W.cell? ⟨g8, 0, none⟩ = some (.int .i64 (no : Int)) ∧ Below w.heap.size w W) :
    (W.setRow w.heap.size cs).cell? ⟨g8, 0, none⟩ = some (.int .i64 (no : Int)) ∧ Below w.heap.size w (W.setRow w.heap.size cs) := by
  obtain ⟨k1, k3⟩ := k
  exact ⟨by rw [cell_setRow_other _ _ _ _ h]; exact k1, below_row k3 (Nat.le_refl _) _⟩
set_option maxRecDepth 40000 in
set_option maxHeartbeats 6400000 in
theorem par_any (s : ByteArray) (w : World) (hs : s.size ≤ 1048576) :
    Calls Try.prog 38 #[.string s] w (PaP (parV (L s)) w) := by
  have hln := fun W => lines_any s W hs
  have hfine := lnV_fine (L s); have htxt := lnV_txt (L s)
  have HE0 := Lib.hid (show parV (L s) = (match lnV (L s) with | .bad n c y => .bad n c y | .ok l => pars l []) from rfl)
  obtain ⟨i0, hi0, hz0, hz1, hz2⟩ := info_parts pl_inf
  have HI := Lib.hid hi0; clear hi0
  generalize parV (L s) = R at *
  generalize lnV (L s) = RL at *
  have b1 := (Below.refl w.heap.size w).alloc (Nat.le_refl _) (.cells (faC 0 0 0) 55)
  have x1 := Blk.new w 55 (faC 0 0 0)
  go_enter Try.func38, Try.ntmps38
  go_wp2_with fail
  refine (hln _).mono ?_; rintro e w2 hP
  clear hln
  cases RL with
  | bad ln c y =>
    obtain ⟨hb, rfl⟩ := hP
    obtain ⟨hl1, hc1, hy⟩ := hfine
    have HE := Lib.hid (HE0.out)
    clear HE0
    have b2 := (b1.trans (hb.mono b1.size)); have x2 := x1.below hb x1.lt
    have b3 := b2.alloc b2.size (.cells (faC (ln : Int) (c : Int) y) 55); have x3 := x2.alloc (.cells (faC (ln : Int) (c : Int) y) 55); have y3 := Blk.new w2 55 (faC (ln : Int) (c : Int) y)
    have h53 : w2.heap.size ≠ w.heap.size := by have := x2.lt; omega
    have e1 : ((ln : Int) == 0) = false := by rw [beq_eq_false_iff_ne]; omega
    have L3 : ldT 55 (.pointer (some ⟨w2.heap.size, 0, none⟩)) (w2.alloc (.cells (faC (ln : Int) (c : Int) y) 55)) = some (faC (ln : Int) (c : Int) y) := ldT_of (ld_seg y3 Try.underlying55 rfl (by kernel_rfl) (by kernel_rfl))
    clear b1 x1 hb b2 x2
    go_wp2_with (refine wpList_store_new rfl 55 _ _ rfl rfl w2.heap.size (faC (ln : Int) (c : Int) y) rfl rfl _ (faC 0 0 0) w2 rfl rfl rfl (by kernel_rfl) (by kernel_rfl) ?_)
    go_upto_region 3 with fail
    generalize w2.heap.size = g5 at *
    have ZZ := Lib.hid (show Blk (w2.alloc (.cells (faC (ln : Int) (c : Int) y) 55)).drew g5 55 (faC (ln : Int) (c : Int) y) ∧ ldT 55 (.pointer (some ⟨g5, 0, none⟩)) (w2.alloc (.cells (faC (ln : Int) (c : Int) y) 55)).drew = some (faC (ln : Int) (c : Int) y) ∧ Below w.heap.size w (w2.alloc (.cells (faC (ln : Int) (c : Int) y) 55)).drew from ⟨y3, ldT_of (ld_seg y3.drew Try.underlying55 rfl (by kernel_rfl) (by kernel_rfl)), b3.drew⟩)
    have x3d : Blk (w2.alloc (.cells (faC (ln : Int) (c : Int) y) 55)).drew w.heap.size 55 (faC 0 0 0) := x3
    clear L3 y3 b3 x3
    refine wp_region_held_drew (S := fun w' => Blk w' g5 55 (faC (ln : Int) (c : Int) y) ∧ ldT 55 (.pointer (some ⟨g5, 0, none⟩)) w' = some (faC (ln : Int) (c : Int) y) ∧ Below w.heap.size w w') (by kernel_rfl) (ZZ.out) (fun hHeld => ?_)
    refine wpAnyH_take (i := 0) (oi := { dst := some 20, op := Op.load 55 (Operand.tmp 5), type := 55, pos := "place.go:159", after := #[{ on := 1, ground := Ground.gcOnly Departure.lateStores }], guard := none }) (v := ?_) rfl (by kernel_rfl) (by kernel_rfl) (by kernel_rfl) (fun _ _ _ h => h) (Or.inl ⟨by rfl, ?_⟩) hHeld ?_
    rotate_left
    · intro w hSw
      try dsimp only at hSw
      go_simp
      try with_reducible rfl
    try simp only [Act.put, List.setIfInBounds_toArray, List.set_cons_zero, List.set_cons_succ]
    refine wpAnyH_take (i := 1) (oi := { dst := some 2, op := Op.assign (Operand.const (Value.slice none 0 0)), type := 51, pos := "place.go:159", after := #[{ on := 0, ground := Ground.textOnly Departure.lateStores }], guard := none }) (v := ?_) rfl (by kernel_rfl) (by kernel_rfl) (by kernel_rfl) (fun _ _ _ h => h) (Or.inl ⟨by rfl, ?_⟩) hHeld ?_
    rotate_left
    · intro w hSw
      try dsimp only at hSw
      go_simp
      try with_reducible rfl
    try simp only [Act.put, List.setIfInBounds_toArray, List.set_cons_zero, List.set_cons_succ]
    refine wpAnyH_ready (rs := [2]) (by kernel_rfl) (by simp) ?_
    refine AllReadyH.cons (o := { dst := none, op := Op.store 55 (Operand.tmp 3) (Operand.tmp 20), type := 0, pos := "place.go:159", after := #[{ on := 0, ground := Ground.data }, { on := 1, ground := Ground.chain }, { on := 0, ground := Ground.phase }, { on := 1, ground := Ground.phase }], guard := none }) rfl (fun K hK => ?_) (AllReadyH.nil)
    rw [if_pos (by rfl)]
    refine wp_store_g 55 (.tmp 3) (.tmp 20) rfl rfl w.heap.size 0 (faC (ln : Int) (c : Int) y) (faC (ln : Int) (c : Int) y) rfl rfl _ _ x3d (Nat.le_refl 3) (by kernel_rfl) (by kernel_rfl) (by kernel_rfl) ?_
    refine hK.out _ _ (s3_st h53 hHeld) (fun hHeld2 => ?_)
    clear hK K hHeld; have hHeld := hHeld2; clear hHeld2
    try simp only [Act.put, List.setIfInBounds_toArray, List.set_cons_zero, List.set_cons_succ]
    refine wpAnyH_done (by kernel_rfl) ?_ _
    obtain ⟨-, -, z5⟩ := hHeld
    go_wp2_with fail
    try simp only [Exit.inBlock, Exit.then]
    exact bodyPost_ret (results_sf (p := 3) (q := 2) rfl _ _ _ _ _ (.slice none 0 0) rfl rfl (x3d.row (faC (ln : Int) (c : Int) y)) rfl) rfl (pap_bad HE.out z5)
  | ok l =>
    obtain ⟨hb, A0, n, c0, LS, rfl, hL, rfl, hn⟩ := hP
    have HE1 := Lib.hid (show pars (lp LS) [] = R from HE0.out.symm)
    clear HE0
    have b2 := (b1.trans (hb.mono b1.size)); have x2 := x1.below hb x1.lt
    have b3 := b2.alloc b2.size (.cells (faC 0 0 0) 55); have x3 := x2.alloc (.cells (faC 0 0 0) 55); have y3 := Blk.new w2 55 (faC 0 0 0)
    have L3 : ldT 55 (.pointer (some ⟨w2.heap.size, 0, none⟩)) (w2.alloc (.cells (faC 0 0 0) 55)) = some (faC 0 0 0) := ldT_of (ld_seg y3 Try.underlying55 rfl (by kernel_rfl) (by kernel_rfl))
    have hL3 := Lib.hid (Lines.at_ hL ((Below.refl w2.heap.size w2).alloc (Nat.le_refl _) (.cells (faC 0 0 0) 55)))
    clear b1 x1 hb b2 x2 hL
    go_wp2_with (refine wpList_store_new rfl 55 _ _ rfl rfl w2.heap.size (faC 0 0 0) rfl rfl _ (faC 0 0 0) w2 rfl rfl rfl (by kernel_rfl) (by kernel_rfl) ?_)
    clear L3 y3
    generalize w2.alloc (.cells (faC 0 0 0) 55) = W3 at *
    generalize w2.heap.size = g5 at *
    go_loopw [6, 23] (fun lv iv wr => ∃ (k : Nat) (acc : List Pc), iv = .int .i64 (k : Int) ∧ k ≤ n ∧ pars ((lp LS).drop k) acc = R ∧ acc.length ≤ 4096 ∧ wr.ownsRow W3.heap.size 67 4 lv acc.length (flatC acc) ∧ (∀ a ∈ acc, a.t.size ≤ maxLen ∧ a.z.size ≤ maxLen) ∧ Below W3.heap.size W3 wr) (fun _ iv _ => n - (intOf iv).toNat)
    case atStart => exact ⟨0, [], rfl, Nat.zero_le _, HE1.out, Nat.zero_le _, own_nil _ _ _ _, fun a ha => absurd ha List.not_mem_nil, Below.refl _ _⟩
    case round =>
      obtain ⟨k, acc, rfl, hk, hpr, hac, o1, hsz, hb⟩ := hrel
      have HPR := Lib.hid hpr; clear hpr HE1
      by_cases hlt : k < n
      · have hlt' : (k : Int) < (n : Int) := by omega
        have hL9 := Lines.at_ hL3.out hb
        have hkl : k < LS.length := by rw [hL3.out.s.len]; exact hlt
        obtain ⟨ad, rfl, hrow⟩ := hL9.s.row (fun _ => rfl) Ln.nil hlt
        have hmem := getD_mem Ln.nil hkl
        have hfs := hL9.f _ hmem
        have hf1 := hfine _ (List.mem_map_of_mem hmem)
        have ht1 := htxt _ (List.mem_map_of_mem hmem)
        have HD := Lib.hid ((lp_drop hkl) ▸ HPR.out)
        obtain ⟨A1, c1', rfl⟩ := own_form o1
        obtain ⟨x, hx⟩ : ∃ x, LS.getD k Ln.nil = x := ⟨_, rfl⟩
        rw [hx] at hrow hfs hf1 ht1 HD hmem
        have HME := Lib.hid hmem
        have HTX := Lib.hid (fun j => fl_len ht1 j)
        clear hx hmem HPR hkl hL9
        obtain ⟨hne, hcol⟩ := hf1
        have hpos : 0 < x.fs.length := Nat.pos_of_ne_zero (fun q => hne (List.eq_nil_of_length_eq_zero q))
        have hposI : (0 : Int) < (x.fs.length : Int) := by omega
        have z8 := Blk.new wr 110 (Ln.C x)
        have d1 : (wr.alloc (.cells (Ln.C x) 110)).cell? ⟨wr.heap.size, 1, none⟩ = some x.V := z8.cell 1
        have hb8 := hb.alloc hb.size (.cells (Ln.C x) 110)
        have o8 := o1.alloc (.cells (Ln.C x) 110)
        have hfs8 := ((hfs.alloc (Nat.le_refl _) (.cells (Ln.C x) 110)).more (show wr.heap.size ≤ (wr.alloc (.cells (Ln.C x) 110)).heap.size by rw [sz1 _ _ rfl]; exact Nat.le_succ _))
        have hpr := prs_any x.g x.fs.length x.c x.fs _ hfs8 rfl hpos ht1
        have HFN := Lib.hid (fun c y (q : prs x.fs = .bad c y) => prs_fine hne hcol q)
        clear hfs o1 ht1 hcol hne
        go_wp2_with (first | (refine wpList_at_g rfl 110 _ rfl wr.heap.size _ (Ln.C x) rfl _ hrow Try.underlying110 rfl (by kernel_rfl) ?_) | (refine wpList_store_new rfl 110 _ _ rfl rfl wr.heap.size (Ln.C x) rfl rfl _ #[.int .i64 0, .slice none 0 0] wr rfl rfl rfl (by kernel_rfl) (by kernel_rfl) ?_))
        refine hpr.mono ?_; rintro e w9 hP
        clear hpr hrow d1
        cases hq : prs x.fs with
        | bad c y =>
          rw [hq] at hP
          obtain ⟨hbp, rfl⟩ := hP
          obtain ⟨hc1, hy⟩ := HFN.out c y hq
          have HE := Lib.hid (show R = .bad x.no c y from by rw [← HD.out, pars, hq])
          have hy0 : (y == 0) = false := by simp [hy]
          have hy1 : (y != 0) = true := by simp [hy]
          have hb9 := hb8.trans (hbp.mono hb8.size)
          have zz9 := z8.below hbp z8.lt
          have z9 := zz9.alloc (.cells ZP 67); have x9 := (x3.below hb9 x3.lt).alloc (.cells ZP 67)
          have b9w := (b3.trans (hb9.mono b3.size)).alloc (Nat.le_trans b3.size hb9.size) (.cells ZP 67)
          have h83 : wr.heap.size ≠ w.heap.size := by have := x3.lt; have := hb.size; omega
          clear HD hq HFN hbp zz9 hb8 z8 hfs8 o8 hb9 hb
          go_upto_region 12 with (refine wpList_store_new rfl 67 _ _ rfl rfl w9.heap.size ZP rfl rfl _ ZP w9 rfl rfl rfl (by kernel_rfl) (by kernel_rfl) ?_)
          have ZZ := Lib.hid (show (w9.alloc (.cells ZP 67)).drew.cell? ⟨wr.heap.size, 0, none⟩ = some (.int .i64 (x.no : Int)) ∧ Below w.heap.size w (w9.alloc (.cells ZP 67)).drew from ⟨z9.cell 0, b9w.drew⟩)
          have x3d : Blk (w9.alloc (.cells ZP 67)).drew w.heap.size 55 (faC 0 0 0) := x9
          clear x9 z9 b9w
          generalize wr.heap.size = g8 at *
          refine wp_region_held_drew (S := fun w' => w'.cell? ⟨g8, 0, none⟩ = some (.int .i64 (x.no : Int)) ∧ Below w.heap.size w w') (by kernel_rfl) (ZZ.out) (fun hHeld => ?_)
          refine wpAnyH_take (i := 0) (oi := { dst := some 48, op := Op.fieldAddr 110 (Operand.tmp 8) 0, type := 0, pos := "place.go:168", after := #[{ on := 5, ground := Ground.gcOnly Departure.lateStores }], guard := none }) (v := ?_) rfl (by kernel_rfl) (by kernel_rfl) (by kernel_rfl) (fun _ _ _ h => h) (Or.inl ⟨by rfl, ?_⟩) hHeld ?_
          rotate_left
          · intro w hSw
            try dsimp only at hSw
            go_simp
            try with_reducible rfl
          try simp only [Act.put, List.setIfInBounds_toArray, List.set_cons_zero, List.set_cons_succ]
          refine wpAnyH_take (i := 1) (oi := { dst := some 49, op := Op.load 3 (Operand.tmp 48), type := 3, pos := "place.go:168", after := #[{ on := 0, ground := Ground.data }, { on := 5, ground := Ground.gcOnly Departure.lateStores }], guard := none }) (v := ?_) rfl (by kernel_rfl) (by kernel_rfl) (by kernel_rfl) (fun _ _ _ h => h) (Or.inl ⟨by rfl, ?_⟩) hHeld ?_
          rotate_left
          · intro w hSw
            try dsimp only at hSw
            go_simp
            try with_reducible rfl
          try simp only [Act.put, List.setIfInBounds_toArray, List.set_cons_zero, List.set_cons_succ]
          refine wpAnyH_take (i := 2) (oi := { dst := some 50, op := Op.move (Operand.tmp 10), type := 3, pos := "place.go:168", after := #[{ on := 5, ground := Ground.gcOnly Departure.lateStores }], guard := none }) (v := ?_) rfl (by kernel_rfl) (by kernel_rfl) (by kernel_rfl) (fun _ _ _ h => h) (Or.inl ⟨by rfl, ?_⟩) hHeld ?_
          rotate_left
          · intro w hSw
            try dsimp only at hSw
            go_simp
            try with_reducible rfl
          try simp only [Act.put, List.setIfInBounds_toArray, List.set_cons_zero, List.set_cons_succ]
          refine wpAnyH_take (i := 3) (oi := { dst := some 51, op := Op.move (Operand.tmp 11), type := 25, pos := "place.go:168", after := #[{ on := 5, ground := Ground.gcOnly Departure.lateStores }], guard := none }) (v := ?_) rfl (by kernel_rfl) (by kernel_rfl) (by kernel_rfl) (fun _ _ _ h => h) (Or.inl ⟨by rfl, ?_⟩) hHeld ?_
          rotate_left
          · intro w hSw
            try dsimp only at hSw
            go_simp
            try with_reducible rfl
          try simp only [Act.put, List.setIfInBounds_toArray, List.set_cons_zero, List.set_cons_succ]
          refine wpAnyH_take (i := 4) (oi := { dst := some 52, op := Op.build 55 #[(0, Operand.tmp 49), (1, Operand.tmp 50), (2, Operand.tmp 51)], type := 55, pos := "place.go:168", after := #[{ on := 1, ground := Ground.data }, { on := 2, ground := Ground.data }, { on := 3, ground := Ground.data }, { on := 5, ground := Ground.gcOnly Departure.lateStores }], guard := none }) (v := ?_) rfl (by kernel_rfl) (by kernel_rfl) (by kernel_rfl) (fun _ _ _ h => h) (Or.inl ⟨by rfl, ?_⟩) hHeld ?_
          rotate_left
          · intro w hSw
            try dsimp only at hSw
            go_simp
            try with_reducible rfl
          try simp only [Act.put, List.setIfInBounds_toArray, List.set_cons_zero, List.set_cons_succ]
          refine wpAnyH_take (i := 5) (oi := { dst := some 2, op := Op.assign (Operand.const (Value.slice none 0 0)), type := 51, pos := "place.go:168", after := #[{ on := 0, ground := Ground.textOnly Departure.lateStores }, { on := 1, ground := Ground.textOnly Departure.lateStores }, { on := 2, ground := Ground.textOnly Departure.lateStores }, { on := 3, ground := Ground.textOnly Departure.lateStores }, { on := 4, ground := Ground.textOnly Departure.lateStores }], guard := none }) (v := ?_) rfl (by kernel_rfl) (by kernel_rfl) (by kernel_rfl) (fun _ _ _ h => h) (Or.inl ⟨by rfl, ?_⟩) hHeld ?_
          rotate_left
          · intro w hSw
            try dsimp only at hSw
            go_simp
            try with_reducible rfl
          try simp only [Act.put, List.setIfInBounds_toArray, List.set_cons_zero, List.set_cons_succ]
          refine wpAnyH_ready (rs := [6]) (by kernel_rfl) (by simp) ?_
          refine AllReadyH.cons (o := { dst := none, op := Op.store 55 (Operand.tmp 3) (Operand.tmp 52), type := 0, pos := "place.go:168", after := #[{ on := 4, ground := Ground.data }, { on := 5, ground := Ground.chain }, { on := 0, ground := Ground.phase }, { on := 1, ground := Ground.phase }, { on := 2, ground := Ground.phase }, { on := 3, ground := Ground.phase }, { on := 4, ground := Ground.phase }, { on := 5, ground := Ground.phase }], guard := none }) rfl (fun K hK => ?_) (AllReadyH.nil)
          rw [if_pos (by rfl)]
          refine wp_store_g 55 (.tmp 3) (.tmp 52) rfl rfl w.heap.size 0 (faC (x.no : Int) (c : Int) y) (faC (x.no : Int) (c : Int) y) rfl rfl _ _ x3d (Nat.le_refl 3) (by kernel_rfl) (by kernel_rfl) (by kernel_rfl) ?_
          refine hK.out _ _ (s12_st h83 hHeld) (fun hHeld2 => ?_)
          clear hK K hHeld; have hHeld := hHeld2; clear hHeld2
          try simp only [Act.put, List.setIfInBounds_toArray, List.set_cons_zero, List.set_cons_succ]
          refine wpAnyH_done (by kernel_rfl) ?_ _
          obtain ⟨-, z5⟩ := hHeld
          go_wp2_with fail
          try simp only [Exit.inBlock, Exit.then]
          exact bodyPost_ret (results_sf (p := 3) (q := 2) rfl _ _ _ _ _ (.slice none 0 0) rfl rfl (x3d.row (faC (x.no : Int) (c : Int) y)) rfl) rfl (pap_bad HE.out z5)
        | ok a =>
          rw [hq] at hP
          obtain ⟨hbp, rfl⟩ := hP
          have hb9 := hb8.trans (hbp.mono hb8.size)
          have zz9 := z8.below hbp z8.lt
          have o9 := own_bel o8 hbp
          have z9 := zz9.alloc (.cells a.C 67); have t9 := Blk.new w9 67 a.C; have x9 := (x3.below hb9 x3.lt).alloc (.cells a.C 67)
          have b9w := (b3.trans (hb9.mono b3.size)).alloc (Nat.le_trans b3.size hb9.size) (.cells a.C 67)
          have hb9a := hb9.alloc hb9.size (.cells a.C 67)
          have o9a := o9.alloc (.cells a.C 67)
          have h83 : wr.heap.size ≠ w.heap.size := by have := x3.lt; have := hb.size; omega
          by_cases hfull : 4096 ≤ acc.length
          · have hfI : (4096 : Int) ≤ (acc.length : Int) := by omega
            have HE := Lib.hid (show R = .bad x.no (fl_ x.fs 0).2 6 from by rw [← HD.out, pars, hq]; simp only; rw [if_pos hfull])
            have hfr := (Lines.at_ hL3.out hb9).f x HME.out
            have c1 : w9.cell? ⟨x.g, 1, none⟩ = some (.int .i64 ((fl_ x.fs 0).2 : Int)) := (fcells (k := 0) hfr rfl hpos).2
            have hgx : x.g < w9.heap.size := by
              obtain ⟨ad', e, hbk, _⟩ := hfr.2 hpos
              injection e with e; subst e; exact hbk
            have c2 : w9.cell? ⟨wr.heap.size, 1, none⟩ = some x.V := zz9.cell 1
            have hg8 := zz9.lt
            generalize (fl_ x.fs 0).2 = c at *
            clear HD hq HFN hbp zz9 hb8 z8 hfs8 o8 hb9 hb o9 t9 hb9a o9a hfull hfr
            go_upto_region 12 with (refine wpList_store_new rfl 67 _ _ rfl rfl w9.heap.size a.C rfl rfl _ ZP w9 rfl rfl rfl (by kernel_rfl) (by kernel_rfl) ?_)
            have ZZ := Lib.hid (show (w9.alloc (.cells a.C 67)).drew.cell? ⟨wr.heap.size, 0, none⟩ = some (.int .i64 (x.no : Int)) ∧ Below w.heap.size w (w9.alloc (.cells a.C 67)).drew from ⟨z9.cell 0, b9w.drew⟩)
            have x3d : Blk (w9.alloc (.cells a.C 67)).drew w.heap.size 55 (faC 0 0 0) := x9
            clear x9 z9 b9w c1 c2 hgx hg8
            generalize wr.heap.size = g8 at *
            refine wp_region_held_drew (S := fun w' => w'.cell? ⟨g8, 0, none⟩ = some (.int .i64 (x.no : Int)) ∧ Below w.heap.size w w') (by kernel_rfl) (ZZ.out) (fun hHeld => ?_)
            refine wpAnyH_take (i := 0) (oi := { dst := some 48, op := Op.fieldAddr 110 (Operand.tmp 8) 0, type := 0, pos := "place.go:168", after := #[{ on := 5, ground := Ground.gcOnly Departure.lateStores }], guard := none }) (v := ?_) rfl (by kernel_rfl) (by kernel_rfl) (by kernel_rfl) (fun _ _ _ h => h) (Or.inl ⟨by rfl, ?_⟩) hHeld ?_
            rotate_left
            · intro w hSw
              try dsimp only at hSw
              go_simp
              try with_reducible rfl
            try simp only [Act.put, List.setIfInBounds_toArray, List.set_cons_zero, List.set_cons_succ]
            refine wpAnyH_take (i := 1) (oi := { dst := some 49, op := Op.load 3 (Operand.tmp 48), type := 3, pos := "place.go:168", after := #[{ on := 0, ground := Ground.data }, { on := 5, ground := Ground.gcOnly Departure.lateStores }], guard := none }) (v := ?_) rfl (by kernel_rfl) (by kernel_rfl) (by kernel_rfl) (fun _ _ _ h => h) (Or.inl ⟨by rfl, ?_⟩) hHeld ?_
            rotate_left
            · intro w hSw
              try dsimp only at hSw
              go_simp
              try with_reducible rfl
            try simp only [Act.put, List.setIfInBounds_toArray, List.set_cons_zero, List.set_cons_succ]
            refine wpAnyH_take (i := 2) (oi := { dst := some 50, op := Op.move (Operand.tmp 10), type := 3, pos := "place.go:168", after := #[{ on := 5, ground := Ground.gcOnly Departure.lateStores }], guard := none }) (v := ?_) rfl (by kernel_rfl) (by kernel_rfl) (by kernel_rfl) (fun _ _ _ h => h) (Or.inl ⟨by rfl, ?_⟩) hHeld ?_
            rotate_left
            · intro w hSw
              try dsimp only at hSw
              go_simp
              try with_reducible rfl
            try simp only [Act.put, List.setIfInBounds_toArray, List.set_cons_zero, List.set_cons_succ]
            refine wpAnyH_take (i := 3) (oi := { dst := some 51, op := Op.move (Operand.tmp 11), type := 25, pos := "place.go:168", after := #[{ on := 5, ground := Ground.gcOnly Departure.lateStores }], guard := none }) (v := ?_) rfl (by kernel_rfl) (by kernel_rfl) (by kernel_rfl) (fun _ _ _ h => h) (Or.inl ⟨by rfl, ?_⟩) hHeld ?_
            rotate_left
            · intro w hSw
              try dsimp only at hSw
              go_simp
              try with_reducible rfl
            try simp only [Act.put, List.setIfInBounds_toArray, List.set_cons_zero, List.set_cons_succ]
            refine wpAnyH_take (i := 4) (oi := { dst := some 52, op := Op.build 55 #[(0, Operand.tmp 49), (1, Operand.tmp 50), (2, Operand.tmp 51)], type := 55, pos := "place.go:168", after := #[{ on := 1, ground := Ground.data }, { on := 2, ground := Ground.data }, { on := 3, ground := Ground.data }, { on := 5, ground := Ground.gcOnly Departure.lateStores }], guard := none }) (v := ?_) rfl (by kernel_rfl) (by kernel_rfl) (by kernel_rfl) (fun _ _ _ h => h) (Or.inl ⟨by rfl, ?_⟩) hHeld ?_
            rotate_left
            · intro w hSw
              try dsimp only at hSw
              go_simp
              try with_reducible rfl
            try simp only [Act.put, List.setIfInBounds_toArray, List.set_cons_zero, List.set_cons_succ]
            refine wpAnyH_take (i := 5) (oi := { dst := some 2, op := Op.assign (Operand.const (Value.slice none 0 0)), type := 51, pos := "place.go:168", after := #[{ on := 0, ground := Ground.textOnly Departure.lateStores }, { on := 1, ground := Ground.textOnly Departure.lateStores }, { on := 2, ground := Ground.textOnly Departure.lateStores }, { on := 3, ground := Ground.textOnly Departure.lateStores }, { on := 4, ground := Ground.textOnly Departure.lateStores }], guard := none }) (v := ?_) rfl (by kernel_rfl) (by kernel_rfl) (by kernel_rfl) (fun _ _ _ h => h) (Or.inl ⟨by rfl, ?_⟩) hHeld ?_
            rotate_left
            · intro w hSw
              try dsimp only at hSw
              go_simp
              try with_reducible rfl
            try simp only [Act.put, List.setIfInBounds_toArray, List.set_cons_zero, List.set_cons_succ]
            refine wpAnyH_ready (rs := [6]) (by kernel_rfl) (by simp) ?_
            refine AllReadyH.cons (o := { dst := none, op := Op.store 55 (Operand.tmp 3) (Operand.tmp 52), type := 0, pos := "place.go:168", after := #[{ on := 4, ground := Ground.data }, { on := 5, ground := Ground.chain }, { on := 0, ground := Ground.phase }, { on := 1, ground := Ground.phase }, { on := 2, ground := Ground.phase }, { on := 3, ground := Ground.phase }, { on := 4, ground := Ground.phase }, { on := 5, ground := Ground.phase }], guard := none }) rfl (fun K hK => ?_) (AllReadyH.nil)
            rw [if_pos (by rfl)]
            refine wp_store_g 55 (.tmp 3) (.tmp 52) rfl rfl w.heap.size 0 (faC (x.no : Int) (c : Int) 6) (faC (x.no : Int) (c : Int) 6) rfl rfl _ _ x3d (Nat.le_refl 3) (by kernel_rfl) (by kernel_rfl) (by kernel_rfl) ?_
            refine hK.out _ _ (s12_st h83 hHeld) (fun hHeld2 => ?_)
            clear hK K hHeld; have hHeld := hHeld2; clear hHeld2
            try simp only [Act.put, List.setIfInBounds_toArray, List.set_cons_zero, List.set_cons_succ]
            refine wpAnyH_done (by kernel_rfl) ?_ _
            obtain ⟨-, z5⟩ := hHeld
            go_wp2_with fail
            try simp only [Exit.inBlock, Exit.then]
            exact bodyPost_ret (results_sf (p := 3) (q := 2) rfl _ _ _ _ _ (.slice none 0 0) rfl rfl (x3d.row (faC (x.no : Int) (c : Int) 6)) rfl) rfl (pap_bad HE.out z5)
          · have hfI : ¬ (4096 : Int) ≤ (acc.length : Int) := by omega
            have HR := Lib.hid (show pars ((lp LS).drop (k + 1)) (acc ++ [a]) = R from by rw [← HD.out, pars, hq]; simp only; rw [if_neg hfull])
            have HT : ldT 67 (.pointer (some ⟨w9.heap.size, 0, none⟩)) (w9.alloc (.cells a.C 67)) = some a.C := ldT_of (ld_seg t9 Try.underlying67 rfl (by kernel_rfl) (by kernel_rfl))
            have hsa : ∀ b ∈ acc ++ [a], b.t.size ≤ maxLen ∧ b.z.size ≤ maxLen := fun b hb' => by
              rcases List.mem_append.1 hb' with q | q
              · exact hsz b q
              · rw [List.mem_singleton.1 q, (prs_right hq).1]
                exact ⟨by show (B _).size ≤ _; rw [B_len]; exact HTX.out 0, by show (B _).size ≤ _; rw [B_len]; exact HTX.out 2⟩
            have HSA := Lib.hid hsa
            have hb9b := hb9a.alloc hb9a.size (.cells a.C 67); have o9b := o9a.alloc (.cells a.C 67)
            have rd9 : Reads ((w9.alloc (.cells a.C 67)).alloc (.cells a.C 67)) (w9.heap.size + 1 + 1) 4 (some ⟨w9.heap.size + 1, 0, none⟩) 1 a.C.toList := by
              have := reads_pc (w9.alloc (.cells a.C 67)) 67 a
              rw [sz1 _ _ rfl] at this; exact this
            clear HD hq HFN hbp zz9 hb8 z8 hfs8 o8 hb9 hb o9 hfull z9 hb9a o9a b9w x9 h83 hsa hsz HT
            go_wp2_with (first | (refine wpList_store_new rfl 67 _ _ rfl rfl w9.heap.size a.C rfl rfl _ ZP w9 rfl rfl rfl (by kernel_rfl) (by kernel_rfl) ?_) | (refine wpList_row_g rfl 67 _ rfl _ rfl _ _ _ _ t9 Try.underlying67 rfl (by kernel_rfl) ?_) | (at_builtin; refine wpList_append_any _ rfl (.tmp 53) (.tmp 55) 51 rfl W3.heap.size 67 i0 _ 4 48 Try.underlying51 HI.out hz0 hz1 hz2 rfl (by decide) _ acc.length (flatC acc) rfl o9b _ _ 1 1 a.C.toList rfl rd9 (pc_one a) (by unfold maxLen; omega) (by omega) (by have := hb9b.size; exact this) ?_; intro v1 w3 o4 g4 _))
            have hb5 : Below W3.heap.size W3 w3 := hb9b.grown g4 hb9b.size (fun g hg => own_ge o9b g hg)
            have o5 : w3.ownsRow W3.heap.size 67 4 v1 (acc ++ [a]).length (flatC (acc ++ [a])) := by
              rw [flC_app, List.length_append, List.length_singleton]
              have e : flatC [a] = a.C.toList := rfl
              rw [e]; exact o4
            clear hb9b o9b g4 o4 t9
            go_wp2_with fail
            go_roundw
            case rel => exact ⟨k + 1, acc ++ [a], by go_num, by omega, HR.out, by rw [List.length_append, List.length_singleton]; omega, o5, HSA.out, hb5⟩
            case measure => simp [intOf]; omega
      · obtain rfl : k = n := by omega
        have hlt' : ¬ (k : Int) < (k : Int) := by omega
        have HR := Lib.hid (show PA.ok acc = R from by rw [← HPR.out, List.drop_eq_nil_of_le (by rw [List.length_map, hL3.out.s.len]; exact Nat.le_refl _)]; rfl)
        clear HPR
        obtain ⟨A1, c1, rfl⟩ := own_form o1
        have x4 := x3.below hb x3.lt
        have b4 := b3.trans (hb.mono b3.size)
        go_wp2_with (refine wpList_store_g rfl 55 _ _ rfl rfl w.heap.size 0 (faC 0 0 0) (faC 0 0 0) rfl rfl _ (faC 0 0 0) x4 (by decide) (by kernel_rfl) (by kernel_rfl) rfl ?_)
        try simp only [Exit.inBlock, Exit.then]
        refine bodyPost_ret (results_sf (p := 3) (q := 2) rfl _ _ _ _ _ (.slice A1 acc.length c1) rfl rfl (x4.row _) rfl) rfl ?_
        refine ⟨below_row b4 (Nat.le_refl _) _, ?_⟩
        rw [← HR.out]
        exact ⟨A1, acc.length, c1, rfl, ⟨rfl, Reads.of_own (own_row o1 x4 (by decide)), hsz⟩⟩
end Go.Proofs.Ytoiccljmdplfgaa.Nr
