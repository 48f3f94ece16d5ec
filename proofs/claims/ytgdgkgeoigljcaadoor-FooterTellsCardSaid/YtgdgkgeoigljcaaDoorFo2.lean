/-
  What writes a footer: a text that grows, walked.
-/
import Derived.Test.YtgdgkgeoigljcaaDoorFo1
namespace Go.Proofs.YtgdgkgeoigljcaaDoor.Fo
open Go.ChangeShapes Go.WideShapes Go.ChangeAt Go.RowKit Go.Shelf
open Go.Proofs.YtgdgkgeoigljcaaDoor
open Go.Proofs.YtgdgkgeoigljcaaDoor.Wd
open Go.Proofs.YtgdgkgeoigljcaaDoor.Rec
open Go.Proofs.YtgdgkgeoigljcaaDoor.Tb (Rc)
open Go.Proofs.YtgdgkgeoigljcaaDoor.Civ (Tab)
open Go.Lib (byteCells)
set_option linter.unusedVariables false
set_option linter.unusedSimpArgs false
theorem byte_inf : (Tryd.prog.info? 5).map (fun i => (i.zero, i.size, i.bytes)) = some (some (.int .u8 0), 1, 1) := by kernel_rfl
/-- a text that is written: a cell in block g, its bytes in blocks from B0 on -/
def Wo (w : World) (B0 g : Nat) (l : List UInt8) : Prop := B0 ≤ g ∧ ∃ v, Blk w g 45 #[v] ∧ w.ownsRow B0 5 1 v l.length (byteCells l)
abbrev Pw (B0 : Nat) (w : World) : Prop := Lib.TabBelow Tryd.prog B0 w "internal/strconv.uint64pow10" .u64 Lib.pow10Tab
abbrev OK (g : Nat) (w w' : World) : Prop := Lib.OthersKept 5 (some g) w w'
theorem OK.blk {w w' : World} {g k : Nat} {t : TypeId} {cs : Array Value} (h : OK g w w') (x : Blk w k t cs) (hk : k ≠ g) (ht : t ≠ 5) : Blk w' k t cs :=
  h k _ x (fun e => hk (Option.some.inj e)) (fun c fz e => by injection e with _ q; exact ht q)
theorem own_kind {w : World} {Bd size n : Nat} {e : TypeId} {v : Value} {xs : List Value} (h : w.ownsRow Bd e size v n xs) : ∀ g, v.ownBlock = some g → ∃ c fz, w.heap[g]? = some (.cells c e fz) := by
  intro g hg
  rcases h.2 with ⟨rfl, _⟩ | ⟨g', cap, cur, rfl, _, hgg, _⟩
  · simp [Value.ownBlock] at hg
  · simp [Value.ownBlock] at hg; subst hg
    exact ⟨cur, _, hgg⟩
theorem Wo.alloc {w : World} {B0 g : Nat} {l : List UInt8} (h : Wo w B0 g l) (o : Obj) : Wo (w.alloc o) B0 g l := by
  obtain ⟨h1, v, h2, h3⟩ := h
  exact ⟨h1, v, h2.alloc o, h3.alloc o⟩
theorem Wo.new (w : World) : Wo (w.alloc (.cells #[.slice none 0 0] 45)) w.heap.size w.heap.size [] :=
  ⟨Nat.le_refl _, _, Blk.new w 45 _, World.ownsRow_nil _ _ _ _⟩
theorem own_ge {w : World} {base : Nat} {e : TypeId} {size n : Nat} {v : Value} {xs : List Value} (h : w.ownsRow base e size v n xs) : ∀ g, v.ownBlock = some g → base ≤ g := by
  intro g hg
  rcases h.2 with ⟨rfl, _⟩ | ⟨g', cap, cur, rfl, h2, h3, _⟩
  · simp [Value.ownBlock] at hg
  · simp [Value.ownBlock] at hg; subst hg; exact h2
theorem own_form {w : World} {base n size : Nat} {e : TypeId} {v : Value} {xs : List Value} (h : w.ownsRow base e size v n xs) : ∃ A c, v = .slice A n c := by
  rcases h.2 with ⟨rfl, rfl⟩ | ⟨g, cap, cur, rfl, _⟩
  · exact ⟨none, 0, rfl⟩
  · exact ⟨_, _, rfl⟩
theorem bc_app (a b : List UInt8) : byteCells (a ++ b) = byteCells a ++ byteCells b := by simp [byteCells]
theorem wo_put {w : World} {B0 g n : Nat} {u v : Value} {l : List UInt8} {xs : List Value} (h1 : B0 ≤ g) (h2 : Blk w g 45 #[u]) (h3 : w.ownsRow B0 5 1 v n xs) (hn : n = l.length) (hx : xs = byteCells l) : Wo (w.setCell ⟨g, 0, none⟩ v) B0 g l := by
  subst hn; subst hx
  refine ⟨h1, v, h2.set_ 0 v, ?_⟩
  refine h3.kept (row := some g) ⟨rfl, rfl, rfl, by simp [World.setCell], fun k _ hk => Below.heap_setCell _ _ _ _ (fun e => hk (by simp [e]))⟩ (.inr ?_)
  exact own_blk_ne h3 h2 (by decide)
set_option maxRecDepth 20000 in
set_option maxHeartbeats 3200000 in
theorem raw_any (B0 g : Nat) (l : List UInt8) (s : ByteArray) (w : World) (h : Wo w B0 g (l)) (hl : l.length + s.size ≤ 100000) (hB : B0 ≤ w.heap.size) :
    Calls Tryd.prog 19 #[.pointer (some ⟨g, 0, none⟩), .string s] w fun e w' => e = .returned (.tuple #[]) ∧ Wo w' B0 g (l ++ L s) ∧ Below B0 w w' ∧ OK g w w' := by
  obtain ⟨i0, hi, hz0, hz1, hz2⟩ := info_parts byte_inf
  obtain ⟨h1, v, h2, h3⟩ := h
  obtain ⟨Av, cv, rfl⟩ := own_form h3
  have c0 : w.cell? ⟨g, 0, none⟩ = some (.slice Av l.length cv) := h2.cell 0
  have HI := Lib.hid hi; clear hi
  go_enter Tryd.func19, Tryd.ntmps19
  go_wp2_with (at_builtin; refine Lib.wpList_append_own_string _ rfl _ _ 45 9 rfl B0 5 i0 Tryd.underlying45 Tryd.underlying9 HI.out hz0 hz1 hz2 _ _ _ rfl h3 s rfl (by unfold maxLen; omega) (by omega) hB ?_; intro v' w2 o2 g2 _; refine Hid.out ?_)
  refine Lib.hid ?_
  obtain ⟨A2, c2, rfl⟩ := own_form o2
  have x2 : Blk w2 g 45 #[.slice Av l.length cv] := h2.grown g2 (fun e => own_blk_ne h3 h2 (by decide) e.symm)
  have b2 : Below B0 w w2 := (Below.refl B0 w).grown g2 hB (fun g hg => own_ge h3 g hg)
  have f0 : w2.frozen? ⟨g, 0, none⟩ = false := x2.frozen 0
  have d0 : w2.cell? ⟨g, 0, none⟩ = some (.slice Av l.length cv) := x2.cell 0
  have k2 : OK g w w2 := (Lib.OthersKept.refl _ _ w).grown g2 (own_kind h3)
  clear g2 c0
  go_wp2_with fail
  go_end0
  exact ⟨rfl, wo_put h1 x2 o2 (by rw [List.length_append, L_len]) (by rw [bc_app]; rfl), b2.setCell (p := ⟨g, 0, none⟩) h1 _, k2.setCell _ rfl _⟩
set_option maxRecDepth 20000 in
set_option maxHeartbeats 3200000 in
theorem num_any (B0 g : Nat) (l : List UInt8) (z : Int) (w : World) (h : Wo w B0 g (l)) (hz : 0 ≤ z ∧ z < 100) (hl : l.length ≤ 100000) (hB : B0 ≤ w.heap.size) (hP : Pw B0 w) :
    Calls Tryd.prog 48 #[.pointer (some ⟨g, 0, none⟩), .int .i64 z] w fun e w' => e = .returned (.tuple #[]) ∧ Wo w' B0 g (l ++ numT z.toNat) ∧ Below B0 w w' ∧ OK g w w' := by
  obtain ⟨h1, v, h2, h3⟩ := h
  obtain ⟨Av, cv, rfl⟩ := own_form h3
  have c0 : w.cell? ⟨g, 0, none⟩ = some (.slice Av l.length cv) := h2.cell 0
  have hc := Tryd.strconv_AppendInt_10 B0 _ z (by omega) (by omega) _ _ _ h3 hB (by omega) hP
  rw [itoa_num hz.1 hz.2] at hc
  go_enter Tryd.func48, Tryd.ntmps48
  go_wp2_with fail
  refine hc.mono ?_; rintro e w2 ⟨v', rfl, o2, b2, k2⟩
  obtain ⟨A2, c2, rfl⟩ := own_form o2
  have x2 : Blk w2 g 45 #[.slice Av l.length cv] := k2 g _ h2 (fun q => by cases q) (fun c fz e => by injection e with _ q; exact absurd q (by decide))
  have f0 : w2.frozen? ⟨g, 0, none⟩ = false := x2.frozen 0
  have d0 : w2.cell? ⟨g, 0, none⟩ = some (.slice Av l.length cv) := x2.cell 0
  have k3 : OK g w w2 := fun k o q1 q2 q3 => k2 k o q1 (fun e => by cases e) q3
  clear k2 c0 hc
  go_wp2_with fail
  go_end0
  exact ⟨rfl, wo_put h1 x2 o2 (by rw [List.length_append]) (by rw [bc_app]), b2.setCell (p := ⟨g, 0, none⟩) h1 _, k3.setCell _ rfl _⟩
theorem reads_3 (w : World) (t : TypeId) (u v x : Value) : Reads (w.alloc (.cells #[u, v, x] t)) (w.heap.size + 1) 1 (some ⟨w.heap.size, 0, none⟩) 3 [u, v, x] :=
  ⟨rfl, fun _ => ⟨_, rfl, Nat.lt_succ_self _, fun j y hx => by
    match j, hx with
    | 0, hx => simp at hx; subst hx; simp [Addr.add]
    | 1, hx => simp at hx; subst hx; simp [Addr.add]
    | 2, hx => simp at hx; subst hx; simp [Addr.add]⟩⟩
theorem int_3 (t : IntKind) (a b c : Int) : ∀ u ∈ [Value.int t a, Value.int t b, Value.int t c], u.oneCell' = true := by
  intro u hu; simp at hu; rcases hu with rfl | rfl | rfl <;> rfl
theorem two_cells (n : Nat) (h : n < 100) : [Value.int .u8 58, Value.int .u8 (48 + (n : Int) / 10 % 10), Value.int .u8 (48 + (n : Int) % 10)] = byteCells (twoT n) := by
  simp only [twoT, byteCells, List.map_cons, List.map_nil, UInt8.toNat_ofNat']
  have e1 : (((48 + n / 10 % 10) % 2 ^ 8 : Nat) : Int) = 48 + (n : Int) / 10 % 10 := by omega
  have e2 : (((48 + n % 10) % 2 ^ 8 : Nat) : Int) = 48 + (n : Int) % 10 := by omega
  rw [e1, e2]; rfl
set_option maxRecDepth 20000 in
set_option maxHeartbeats 3200000 in
theorem two_any (B0 g : Nat) (l : List UInt8) (n : Nat) (w : World) (h : Wo w B0 g (l)) (hz : n < 100) (hl : l.length ≤ 100000) (hB : B0 ≤ w.heap.size) :
    Calls Tryd.prog 49 #[.pointer (some ⟨g, 0, none⟩), .int .i64 (n : Int)] w fun e w' => e = .returned (.tuple #[]) ∧ Wo w' B0 g (l ++ twoT n) ∧ Below B0 w w' ∧ OK g w w' := by
  obtain ⟨i0, hi, hz0, hz1, hz2⟩ := info_parts byte_inf
  obtain ⟨h1, v, h2, h3⟩ := h
  obtain ⟨Av, cv, rfl⟩ := own_form h3
  have c0 : w.cell? ⟨g, 0, none⟩ = some (.slice Av l.length cv) := h2.cell 0
  have HI := Lib.hid hi; clear hi
  have q1 : (n : Int).tdiv 10 = (n : Int) / 10 := Int.tdiv_eq_ediv_of_nonneg (by omega)
  have q2 : ((n : Int) / 10).tmod 10 = (n : Int) / 10 % 10 := Int.tmod_eq_emod_of_nonneg (by omega)
  have q3 : (n : Int).tmod 10 = (n : Int) % 10 := Int.tmod_eq_emod_of_nonneg (by omega)
  have w1 : IntKind.u8.wrap (48 + (n : Int) / 10 % 10) = 48 + (n : Int) / 10 % 10 := by simp [IntKind.wrap, IntKind.bits, IntKind.signed]; omega
  have w2 : IntKind.u8.wrap (48 + (n : Int) % 10) = 48 + (n : Int) % 10 := by simp [IntKind.wrap, IntKind.bits, IntKind.signed]; omega
  have h3a := h3.alloc (.cells #[.int .u8 58, .int .u8 (48 + (n : Int) / 10 % 10), .int .u8 (48 + (n : Int) % 10)] 5)
  have h2a := h2.alloc (.cells #[.int .u8 58, .int .u8 (48 + (n : Int) / 10 % 10), .int .u8 (48 + (n : Int) % 10)] 5)
  have b1 := (Below.refl B0 w).alloc hB (.cells #[.int .u8 58, .int .u8 (48 + (n : Int) / 10 % 10), .int .u8 (48 + (n : Int) % 10)] 5)
  go_enter Tryd.func49, Tryd.ntmps49
  go_wp2_with (at_builtin; refine wpList_append_any _ rfl (.tmp 7) (.tmp 17) 45 rfl B0 5 i0 _ 1 1 Tryd.underlying45 HI.out hz0 hz1 hz2 rfl (by decide) _ l.length (byteCells l) rfl h3a _ _ 3 3 [.int .u8 58, .int .u8 (48 + (n : Int) / 10 % 10), .int .u8 (48 + (n : Int) % 10)] rfl (reads_3 _ _ _ _ _) (int_3 _ _ _ _) (by unfold maxLen; omega) (by omega) (Nat.le_trans hB b1.size) ?_; intro v' w2 o2 g2 _; refine Hid.out ?_)
  refine Lib.hid ?_
  obtain ⟨A2, c2, rfl⟩ := own_form o2
  have x2 : Blk w2 g 45 #[.slice Av l.length cv] := h2a.grown g2 (fun e => own_blk_ne h3a h2a (by decide) e.symm)
  have b2 : Below B0 w w2 := b1.grown g2 (Nat.le_trans hB b1.size) (fun g hg => own_ge h3a g hg)
  have f0 : w2.frozen? ⟨g, 0, none⟩ = false := x2.frozen 0
  have d0 : w2.cell? ⟨g, 0, none⟩ = some (.slice Av l.length cv) := x2.cell 0
  have k2 : OK g w w2 := ((Lib.OthersKept.refl _ _ w).alloc _).grown g2 (own_kind h3a)
  clear g2 c0 q1 q2 q3
  go_wp2_with fail
  go_end0
  exact ⟨rfl, wo_put h1 x2 o2 (by rw [List.length_append]; rfl) (by rw [two_cells n hz, bc_app]), b2.setCell (p := ⟨g, 0, none⟩) h1 _, k2.setCell _ rfl _⟩
set_option maxRecDepth 20000 in
set_option maxHeartbeats 3200000 in
theorem oname_any (B0 g : Nat) (l : List UInt8) (s : ByteArray) (w : World) (h : Wo w B0 g (l)) (hl : l.length ≤ 10000) (hs : s.size ≤ 10000) (hB : B0 ≤ w.heap.size) :
    Calls Tryd.prog 17 #[.pointer (some ⟨g, 0, none⟩), .string s] w fun e w' => e = .returned (.tuple #[]) ∧ Wo w' B0 g (l ++ nameT (L s)) ∧ Below B0 w w' ∧ OK g w w' := by
  have hlt := letters_any s w (by unfold maxLen; omega)
  by_cases hq : ltN (L s) = (L s).length
  · have HE := Lib.hid (show nameT (L s) = L s by unfold nameT; rw [if_pos hq])
    rw [L_len] at hq
    rw [hq] at hlt
    have hr := raw_any B0 g l s w h (by omega) hB
    go_enter Tryd.func17, Tryd.ntmps17
    go_wp2_with (go_at_call 47; refine hlt.mono ?_; rintro e W ⟨rfl, rfl⟩)
    refine hr.mono ?_; rintro e W ⟨rfl, hW, hbW, hkW⟩
    go_wp2_with fail
    try simp only [Exit.inBlock, Exit.then]
    refine bodyPost_ret (results_none rfl _ _ _) rfl ?_
    exact ⟨rfl, by rw [HE.out]; exact hW, hbW, hkW⟩
  · have HE := Lib.hid (show nameT (L s) = 60 :: (L s ++ [62]) by unfold nameT; rw [if_neg hq])
    rw [L_len] at hq
    have hne : ((ltN (L s) : Int) == (s.size : Int)) = false := by rw [beq_eq_false_iff_ne]; omega
    generalize ltN (L s) = k at *
    have hq1 : (⟨#[60]⟩ ++ s ++ ⟨#[62]⟩ : ByteArray) = B (60 :: (L s ++ [62])) := by
      apply ByteArray.ext; apply Array.toList_inj.1; simp [ByteArray.data_append, L, B]
    have hr := raw_any B0 g l (B (60 :: (L s ++ [62]))) w h (by rw [B_len]; simp; omega) hB
    rw [← hq1] at hr
    have HQ := Lib.hid hq1
    clear hq1
    go_enter Tryd.func17, Tryd.ntmps17
    go_wp2_with (go_at_call 47; refine hlt.mono ?_; rintro e W ⟨rfl, rfl⟩)
    refine hr.mono ?_; rintro e W ⟨rfl, hW, hbW, hkW⟩
    go_wp2_with fail
    go_end0
    exact ⟨rfl, by rw [HE.out]; rw [HQ.out] at hW; exact hW, hbW, hkW⟩
theorem tdm {n k : Nat} (hk : 0 < k) : (n : Int).tdiv (k : Int) = ((n / k : Nat) : Int) ∧ (n : Int).tmod (k : Int) = ((n % k : Nat) : Int) := ⟨by rw [Int.tdiv_eq_ediv_of_nonneg (by omega)]; rfl, by rw [Int.tmod_eq_emod_of_nonneg (by omega)]; rfl⟩
set_option maxRecDepth 20000 in
set_option maxHeartbeats 3200000 in
theorem ooff_any (B0 g : Nat) (l : List UInt8) (z : Int) (w : World) (h : Wo w B0 g (l)) (hz : -86400 ≤ z ∧ z ≤ 86400) (hl : l.length ≤ 10000) (hB : B0 ≤ w.heap.size) (hP : Pw B0 w) :
    Calls Tryd.prog 18 #[.pointer (some ⟨g, 0, none⟩), .int .i64 z] w fun e w' => e = .returned (.tuple #[]) ∧ Wo w' B0 g (l ++ offT z) ∧ Below B0 w w' ∧ OK g w w' := by
  obtain ⟨N, hN⟩ : ∃ N, z.natAbs = N := ⟨_, rfl⟩
  have hN2 : N ≤ 86400 := by omega
  have t1 : (N : Int).tdiv 3600 = ((N / 3600 : Nat) : Int) := (tdm (n := N) (k := 3600) (by decide)).1
  have t2 : (N : Int).tmod 3600 = ((N % 3600 : Nat) : Int) := (tdm (n := N) (k := 3600) (by decide)).2
  have t3 : ((N % 3600 : Nat) : Int).tdiv 60 = ((N % 3600 / 60 : Nat) : Int) := (tdm (n := N % 3600) (k := 60) (by decide)).1
  have hH : N / 3600 ≤ 24 := by omega
  have hM : N % 3600 / 60 < 60 := by omega
  have HO := Lib.hid (show offT z = (if 0 < z then [45] else []) ++ (numT (N / 3600) ++ (if N % 3600 / 60 = 0 then [] else twoT (N % 3600 / 60))) by unfold offT; rw [hN])
  generalize N / 3600 = H at *
  obtain ⟨M, hMM⟩ : ∃ M, N % 3600 / 60 = M := ⟨_, rfl⟩
  rw [hMM] at t3 hM HO
  obtain ⟨R, hR⟩ : ∃ R, N % 3600 = R := ⟨_, rfl⟩
  rw [hR] at t2 t3
  have hk : ∀ (l' : List UInt8) (W : World), Wo W B0 g l' → l'.length ≤ 10001 → B0 ≤ W.heap.size → Pw B0 W → Calls Tryd.prog 48 #[.pointer (some ⟨g, 0, none⟩), .int .i64 (H : Int)] W fun e w' => e = .returned (.tuple #[]) ∧ Wo w' B0 g (l' ++ numT H) ∧ Below B0 W w' ∧ OK g W w' := fun l' W q1 q2 q3 q4 => num_any B0 g l' (H : Int) W q1 (by omega) (by omega) q3 q4
  have hu : ∀ (l' : List UInt8) (W : World), Wo W B0 g l' → l'.length ≤ 10003 → B0 ≤ W.heap.size → Calls Tryd.prog 49 #[.pointer (some ⟨g, 0, none⟩), .int .i64 (M : Int)] W fun e w' => e = .returned (.tuple #[]) ∧ Wo w' B0 g (l' ++ twoT M) ∧ Below B0 W w' ∧ OK g W w' := fun l' W q1 q2 q3 => two_any B0 g l' M W q1 (by omega) (by omega) q3
  have hnl := num_len H
  clear hMM hR
  by_cases hz0 : 0 < z
  · obtain rfl : z = (N : Int) := by omega
    rw [if_pos hz0] at HO
    have hneg : -(N : Int) < 0 := by omega
    have hr := raw_any B0 g l ⟨#[45]⟩ w h (by show l.length + 1 ≤ _; omega) hB
    clear hz0 hN hN2
    go_enter Tryd.func18, Tryd.ntmps18
    go_wp2_with fail
    refine hr.mono ?_; rintro e W1 ⟨rfl, hW1, b1, k1⟩
    have hq := hk _ _ hW1 (by rw [List.length_append]; show l.length + 1 ≤ _; omega) (Nat.le_trans hB b1.size) (hP.on b1)
    clear hr h
    go_wp2_with fail
    refine hq.mono ?_; rintro e W2 ⟨rfl, hW2, b2, k2⟩
    have b3 := b1.trans b2; have k3 := k1.trans k2
    clear hq hW1 b1 k1 k2
    by_cases hm : M = 0
    · subst hm
      have HE := Lib.hid (show l ++ offT (N : Int) = l ++ [45] ++ numT H by rw [HO.out]; simp)
      clear HO hu
      go_wp2_with fail
      go_end0
      exact ⟨rfl, by rw [HE.out]; exact hW2, b3, k3⟩
    · have hm1 : ((M : Int) != 0) = true := by simp [hm]
      have HE := Lib.hid (show l ++ offT (N : Int) = l ++ [45] ++ numT H ++ twoT M by rw [HO.out, if_neg hm]; simp)
      have hq := hu _ _ hW2 (by simp only [List.length_append]; show l.length + 1 + _ ≤ _; omega) (Nat.le_trans hB b3.size)
      clear HO hm hu
      go_wp2_with fail
      refine hq.mono ?_; rintro e W4 ⟨rfl, hW4, b4, k4⟩
      go_wp2_with fail
      go_end0
      exact ⟨rfl, by rw [HE.out]; exact hW4, b3.trans b4, k3.trans k4⟩
  · obtain rfl : z = -(N : Int) := by omega
    rw [if_neg hz0] at HO
    have hneg : ¬ (N : Int) < 0 := by omega
    have hnn : -(-(N : Int)) = (N : Int) := by omega
    have hq := hk _ _ h (by omega) hB hP
    clear hz0 hN hN2
    go_enter Tryd.func18, Tryd.ntmps18
    go_wp2_with fail
    refine hq.mono ?_; rintro e W2 ⟨rfl, hW2, b3, k3⟩
    clear hq h
    by_cases hm : M = 0
    · subst hm
      have HE := Lib.hid (show l ++ offT (-(N : Int)) = l ++ numT H by rw [HO.out]; simp)
      clear HO hu
      go_wp2_with fail
      go_end0
      exact ⟨rfl, by rw [HE.out]; exact hW2, b3, k3⟩
    · have hm1 : ((M : Int) != 0) = true := by simp [hm]
      have HE := Lib.hid (show l ++ offT (-(N : Int)) = l ++ numT H ++ twoT M by rw [HO.out, if_neg hm]; simp)
      have hq := hu _ _ hW2 (by simp only [List.length_append]; omega) (Nat.le_trans hB b3.size)
      clear HO hm hu
      go_wp2_with fail
      refine hq.mono ?_; rintro e W4 ⟨rfl, hW4, b4, k4⟩
      go_wp2_with fail
      go_end0
      exact ⟨rfl, by rw [HE.out]; exact hW4, b3.trans b4, k3.trans k4⟩
end Go.Proofs.YtgdgkgeoigljcaaDoor.Fo
