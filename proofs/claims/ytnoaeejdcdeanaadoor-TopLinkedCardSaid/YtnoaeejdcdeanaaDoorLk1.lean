/-
  LINKS: the names of a source's zones and links, the last one first; their first places: walked.
-/
import Derived.Test.YtnoaeejdcdeanaaDoorRows
import Derived.Test.YtnoaeejdcdeanaaDoorArI
import Derived.Test.YtnoaeejdcdeanaaDoorSrc
import Derived.Test.YtnoaeejdcdeanaaDoorMps
import Derived.RangeFuncBox
import Derived.Lib.Hide
namespace Go.Proofs.YtnoaeejdcdeanaaDoor.Lk
open Go.ChangeShapes Go.WideShapes Go.ChangeAt Go.RowKit Go.Shelf
open Go.Proofs.YtnoaeejdcdeanaaDoor
open Go.Proofs.YtnoaeejdcdeanaaDoor.Wd
open Go.Proofs.YtnoaeejdcdeanaaDoor.Sl
open Go.Proofs.YtnoaeejdcdeanaaDoor.Sr
open Go.Proofs.YtnoaeejdcdeanaaDoor.Mp (Smap mput wpListIn_mput)
set_option linter.unusedVariables false
attribute [local go_sem] Oper.semAt_some
theorem bal {w W : World} (h : Below w.heap.size w W) (o : Obj) : Below w.heap.size w (W.alloc o) := h.alloc h.size o
theorem info_int : (Tryd.prog.info? 3).map (fun i => (i.zero, i.size, i.bytes)) = some (some (.int .i64 0), 1, 8) := by kernel_rfl
set_option maxRecDepth 20000 in
theorem zname_any (Bs B : Nat) (h : Hd) (S : So) (k : Nat) (w : World) (hB : Blk w Bs 26 h.C) (hS : SoR w B h S) (hk : k < h.zn) :
    Calls Tryd.prog 33 #[.int .i64 (k : Int), .pointer (some ⟨Bs, 0, none⟩)] w fun e w' => e = .returned (.string (zn_ S.zs k).nm) ∧ w = w' := by
  have c1 : w.cell? ⟨Bs, 1, none⟩ = some (.slice h.zA h.zn h.zc) := hB.cell 1
  obtain ⟨ad, e0, hr⟩ := hS.z.row (fun _ => rfl) Zn.nil hk
  have hm := hS.zm
  unfold maxLen at hm
  rw [e0] at c1
  have hk' : (k : Int) < (h.zn : Int) := by omega
  have r1 := row_c0 hr (v := .string (zn_ S.zs k).nm) rfl
  generalize (zn_ S.zs k).nm = z at *
  go_enter Tryd.func33, Tryd.ntmps33
  go_wp2_with fail
  go_ret
  exact ⟨rfl, rfl⟩
set_option maxRecDepth 20000 in
theorem lname_any (Bs B : Nat) (h : Hd) (S : So) (k : Nat) (w : World) (hB : Blk w Bs 26 h.C) (hS : SoR w B h S) (hk : k < h.ln) :
    Calls Tryd.prog 34 #[.int .i64 (k : Int), .pointer (some ⟨Bs, 0, none⟩)] w fun e w' => e = .returned (.string (li_ S.ls k).nm) ∧ w = w' := by
  have c1 : w.cell? ⟨Bs, 2, none⟩ = some (.slice h.lA h.ln h.lc) := hB.cell 2
  obtain ⟨ad, e0, hr⟩ := hS.l.row (fun _ => rfl) Li.nil hk
  have hm := hS.lm
  unfold maxLen at hm
  rw [e0] at c1
  have hk' : (k : Int) < (h.ln : Int) := by omega
  have r1 := row_cj hr 1 (by decide) (v := .string (li_ S.ls k).nm) rfl
  generalize (li_ S.ls k).nm = z at *
  go_enter Tryd.func34, Tryd.ntmps34
  go_wp2_with fail
  go_ret
  exact ⟨rfl, rfl⟩
abbrev fnV (g : Nat) (Bs : Nat) : Value := .func (.func g) #[] #[.pointer (some ⟨Bs, 0, none⟩)]
abbrev itV (b1 b2 : Nat) : Value := .func (.func 55) #[] #[.pointer (some ⟨b1, 0, none⟩), .pointer (some ⟨b2, 0, none⟩)]
set_option maxRecDepth 20000 in
theorem behind_any (n : Int) (g Bs : Nat) (w : World) :
    Calls Tryd.prog 45 #[.int .i64 n, fnV g Bs] w fun e w' => e = .returned (itV w.heap.size (w.heap.size + 1)) ∧ (w.alloc (.cells #[.int .i64 n] 3)).alloc (.cells #[fnV g Bs] 88) = w' := by
  go_enter Tryd.func45, Tryd.ntmps45
  go_wp2_with fail
  go_ret
  exact ⟨rfl, rfl⟩
/-- the places that have come when k are still to come -/
def dn (n k : Nat) : List Nat := ((List.range n).drop k).reverse
theorem dn_n (n : Nat) : dn n n = [] := by unfold dn; rw [List.drop_of_length_le (by simp)]; rfl
theorem dn_len (n k : Nat) : (dn n k).length = n - k := by unfold dn; simp
theorem dn_step {n k : Nat} (h : k < n) : dn n k = dn n (k + 1) ++ [k] := by
  unfold dn
  rw [List.drop_eq_getElem_cons (by simpa using h), List.reverse_cons]; simp
theorem dn_pre {n k : Nat} (h : k ≤ n) : dn n k <+: dn n 0 := by
  induction k with
  | zero => exact List.prefix_refl _
  | succ k ih => exact List.IsPrefix.trans ⟨[k], (dn_step (by omega)).symm⟩ (ih (by omega))
/-- what a round keeps: what lay below n0, and two blocks -/
structure K2 (b1 b2 n0 : Nat) (W W' : World) : Prop where
  b : Below n0 W W'
  s : W'.heap[b1]? = W.heap[b1]?
  t : W'.heap[b2]? = W.heap[b2]?
theorem K2.tr {b1 b2 n0 : Nat} {A B C : World} (h : K2 b1 b2 n0 A B) (k : K2 b1 b2 n0 B C) : K2 b1 b2 n0 A C := ⟨h.b.trans k.b, k.s.trans h.s, k.t.trans h.t⟩
theorem K2.rfl' {b1 b2 n0 : Nat} (W : World) : K2 b1 b2 n0 W W := ⟨Below.refl _ _, rfl, rfl⟩
theorem K2.put {b1 b2 n0 : Nat} {w : World} (hn : n0 ≤ w.heap.size) (h1 : b1 < w.heap.size) (h2 : b2 < w.heap.size) (W : World) (l : Nat) (o o' : Obj) (hl : w.heap.size ≤ l) (h : W.heap[l]? = some o) (ho : o.isCells = false) (hw : o.isWalk = false) : K2 b1 b2 n0 W (W.putObj l o') := by
  have hlt := (Array.getElem?_eq_some_iff.1 h).1
  exact ⟨belowK_b hn W l o o' hl h ho hw, (grownBy_putObj' W l o').block b1 (by omega) (fun e => by have := Option.some.inj e; omega), (grownBy_putObj' W l o').block b2 (by omega) (fun e => by have := Option.some.inj e; omega)⟩
set_option maxRecDepth 100000 in
set_option maxHeartbeats 3200000 in
theorem behind1_in (m lp b1 b2 n0 g Bs n : Nat) (nm : Nat → ByteArray) (J Jx : List Nat → World → Prop)
    (hY : ∀ pre x W, J pre W → pre.length < n → YieldAt Fence.wide (m - 1) Tryd.prog lp #[.int .i64 (x : Nat), .string (nm x)] W fun e W' =>
      (e = .returned (.bool true) ∧ J (pre ++ [x]) W' ∧ K2 b1 b2 n0 W W') ∨ (e = .returned (.bool false) ∧ Jx (pre ++ [x]) W'))
    (W : World) (h1 : Blk W b1 3 #[.int .i64 (n : Int)]) (h2 : Blk W b2 88 #[fnV g Bs]) (hn : n ≤ maxLen) (heg : ∀ args W, (callFunc g args).run Tryd.prog W = .ok (.enter g args) W)
    (hnm : ∀ W', K2 b1 b2 n0 W W' → ∀ k, k < n → Calls Tryd.prog g #[.int .i64 (k : Int), .pointer (some ⟨Bs, 0, none⟩)] W' fun e w' => e = .returned (.string (nm k)) ∧ W' = w') (h0 : J [] W) :
    CallsIn Fence.wide m Tryd.prog 55 #[.func (.yield lp) #[] #[], .pointer (some ⟨b1, 0, none⟩), .pointer (some ⟨b2, 0, none⟩)] W fun e W' => (∃ v, e = .returned v) ∧
      ((∃ ys, ys = dn n 0 ∧ J ys W') ∨ (∃ pre, pre <+: dn n 0 ∧ Jx pre W')) := by
  unfold maxLen at hn
  have c1 : W.cell? ⟨b1, 0, none⟩ = some (.int .i64 (n : Int)) := h1.cell 0
  have hneg : -9223372036854775808 ≤ (n : Int) - 1 := by omega
  refine callsIn_of_wp Tryd.func55 rfl trivial ?_ rfl
  simp only [Tryd.ntmps55, List.size_toArray, List.length_cons, List.length_nil, Nat.reduceAdd, Nat.reduceSub, Array.replicate_succ, Array.replicate_zero, List.push_toArray, List.append_toArray, List.nil_append, List.cons_append]
  gi_wp2
  gi_loopw [4] (fun i wr => ∃ k : Nat, i = .int .i64 ((k : Int) - 1) ∧ k ≤ n ∧ J (dn n k) wr ∧ K2 b1 b2 n0 W wr) (fun i _ => (intOf i + 1).toNat)
  case atStart => exact ⟨n, rfl, Nat.le_refl _, by rw [dn_n]; exact h0, K2.rfl' _⟩
  case round =>
    obtain ⟨k, rfl, hk, hJ, hK⟩ := hrel
    rcases k with _ | k
    · gi_wp2
      go_end0
      exact ⟨⟨_, rfl⟩, .inl ⟨_, rfl, hJ⟩⟩
    · have e1 : (((k + 1 : Nat) : Int) - 1) = (k : Int) := by omega
      rw [e1]
      clear e1
      have c2 : wr.cell? ⟨b2, 0, none⟩ = some (fnV g Bs) := (show Blk wr b2 88 #[fnV g Bs] from hK.t.trans h2).cell 0
      have hc := hnm wr hK k (by omega)
      have hst := Lib.hid (dn_step (show k < n by omega))
      have hy1 := hY (dn n (k + 1)) k wr hJ (by rw [dn_len]; omega)
      have hk0 : (0 : Int) ≤ (k : Int) := by omega
      have hk1 : (k : Int) ≤ 9223372036854775807 := by omega
      generalize nm k = z at *
      obtain ⟨fn, tmps, assign, body, hy, hR1⟩ := hy1
      gi_wp2
      refine ⟨trivial, fun h => (by cases h), (callsIn_wide.2 hc).mono ?_⟩
      rintro e w' ⟨rfl, rfl⟩
      gi_wp2
      refine ⟨fun h => (by cases h), hR1.mono ?_⟩
      rintro e W3 (⟨rfl, hJ3, hk3⟩ | ⟨rfl, hJx3⟩)
      · have hK3 := hK.tr hk3
        clear hk3
        gi_wp2
        go_roundw
        case rel => exact ⟨k, rfl, by omega, by rw [hst.out]; exact hJ3, hK3⟩
        case measure => simp [intOf]
      · gi_wp2
        refine bodyPost_ret (results_none rfl _ _ _) rfl ?_
        exact ⟨⟨_, rfl⟩, .inr ⟨_, dn_pre (k := k) (by omega), by rw [hst.out]; exact hJx3⟩⟩
theorem behind1_stops (m b1 b2 n0 g Bs n : Nat) (nm : Nat → ByteArray) (w : World) (h1 : Blk w b1 3 #[.int .i64 (n : Int)]) (h2 : Blk w b2 88 #[fnV g Bs]) (hn : n ≤ maxLen) (hn0 : n0 ≤ w.heap.size) (heg : ∀ args W, (callFunc g args).run Tryd.prog W = .ok (.enter g args) W)
    (hnm : ∀ W', K2 b1 b2 n0 w W' → ∀ k, k < n → Calls Tryd.prog g #[.int .i64 (k : Int), .pointer (some ⟨Bs, 0, none⟩)] W' fun e w' => e = .returned (.string (nm k)) ∧ W' = w') :
    SeqStopsK Fence.wide m Tryd.prog 55 #[.pointer (some ⟨b1, 0, none⟩), .pointer (some ⟨b2, 0, none⟩)] (fun x : Nat => #[.int .i64 (x : Nat), .string (nm x)]) (K2 b1 b2 n0) (fun ys => ys = dn n 0) (fun pre => pre <+: dn n 0) n w := fun lp J Jx W hW hJ hJx hY h0 => by
  have k0 : K2 b1 b2 n0 w W := ⟨hW.mono hn0, hW.block b1 h1.lt, hW.block b2 h2.lt⟩
  exact behind1_in m lp b1 b2 n0 g Bs n nm J Jx hY W (k0.s.trans h1) (k0.t.trans h2) hn heg (fun W' h => hnm W' (k0.tr h)) h0
theorem run_makeMap_hint {P : Program} (t k e : TypeId) (kd : IntKind) (n : Int) (ht : P.underlying t = some (.map k e)) (w : World) :
    (Instr.makeMap t (some (.int kd n))).run P w = .ok (.map (some w.heap.size)) (w.alloc (.map #[] 0)) := by
  simp [Instr.makeMap, run_underlying ht]; rfl
/-- the map behind the places that have come -/
def plF (nm : Nat → ByteArray) (pre : List Nat) : Key → Option Value := pre.foldl (fun m x => mput m (key (nm x)) (.int .i64 (x : Nat))) (fun _ => none)
theorem plF_snoc (nm : Nat → ByteArray) (pre : List Nat) (x : Nat) : plF nm (pre ++ [x]) = mput (plF nm pre) (key (nm x)) (.int .i64 (x : Nat)) := by unfold plF; rw [List.foldl_append]; rfl
/-- the first places of n names -/
def plM (l : List Key) : Key → Option Value := fun s => (fst_ l s).map fun i => .int .i64 (i : Nat)
theorem plF_at (nm : Nat → ByteArray) (n k : Nat) (h : k ≤ n) : plF nm (dn n k) = fun s => (fst_ (((List.range n).drop k).map fun i => key (nm i)) s).map fun i => .int .i64 ((i + k : Nat) : Int) := by
  induction hj : n - k generalizing k with
  | zero =>
    obtain rfl : k = n := by omega
    rw [dn_n, List.drop_of_length_le (by simp)]; rfl
  | succ j ih =>
    have hk : k < n := by omega
    have hd : (List.range n).drop k = k :: (List.range n).drop (k + 1) := by
      rw [List.drop_eq_getElem_cons (by simpa using hk), List.getElem_range]
    rw [dn_step hk, plF_snoc, ih (k + 1) (by omega) (by omega), hd]
    funext s
    rw [List.map_cons, fst_cons]
    unfold mput
    by_cases e : s = key (nm k)
    · subst e; rw [if_pos rfl, if_pos rfl, Option.map_some, Nat.zero_add]
    · rw [if_neg e, if_neg (Ne.symm e), Option.map_map]
      show Option.map _ _ = Option.map _ _
      congr 1
      funext i
      show Value.int .i64 ((i + (k + 1) : Nat) : Int) = Value.int .i64 ((i + 1 + k : Nat) : Int)
      congr 2; omega
theorem plF_all (nm : Nat → ByteArray) (l : List Key) (h : ∀ k, k < l.length → l[k]? = some (key (nm k))) : plF nm (dn l.length 0) = plM l := by
  rw [plF_at _ _ _ (Nat.zero_le _)]
  have e : (((List.range l.length).drop 0).map fun i => key (nm i)) = l := by
    refine List.ext_getElem? fun i => ?_
    rw [List.drop_zero, List.getElem?_map]
    rcases Nat.lt_or_ge i l.length with g | g
    · rw [List.getElem?_eq_getElem (by simpa using g), List.getElem_range, h i g]; rfl
    · rw [List.getElem?_eq_none (by simpa using g), List.getElem?_eq_none g]; rfl
  rw [e]; rfl
theorem smap_from {P : Program} {k b : Nat} {β : Type} (B : Nat) (hb : b < B) (f : β → Nat) (m : β → Key → Option Value) : OwnFrom B (fun s W => Smap W P k b (f s) (m s)) := fun s W W' row hs hg hr => hs.kept hg (fun e => by have := (hr _ e.symm).1; omega)
theorem blk_own {β : Type} (g : Nat) (t : TypeId) (cs : β → Array Value) : Own (fun s W => Blk W g t (cs s)) := fun s X Y row hs hg hrow =>
  (hg.block g hs.lt (fun e' => by obtain ⟨o, ho, hc⟩ := hrow g e'.symm; rw [show X.heap[g]? = _ from hs] at ho; cases ho; cases hc)).trans hs
theorem blk_put {W : World} {g D : Nat} {t : TypeId} {cs : Array Value} {o' : Obj} (h : Blk W g t cs) (hne : g ≠ D) : Blk (W.putObj D o') g t cs :=
  ((grownBy_putObj' W D o').block g h.lt (fun e => hne (Option.some.inj e))).trans h
set_option maxRecDepth 100000 in
set_option maxHeartbeats 6400000 in
theorem places_in (n g Bs : Nat) (nm : Nat → ByteArray) (w : World) (hn : n ≤ 1000000) (heg : ∀ args W, (callFunc g args).run Tryd.prog W = .ok (.enter g args) W) (hsz : ∀ k, (nm k).size ≤ maxLen)
    (hnm : ∀ W', Below w.heap.size w W' → ∀ k, k < n → Calls Tryd.prog g #[.int .i64 (k : Int), .pointer (some ⟨Bs, 0, none⟩)] W' fun e w' => e = .returned (.string (nm k)) ∧ W' = w') :
    CallsIn Fence.wide 5 Tryd.prog 32 #[.int .i64 (n : Int), fnV g Bs] w fun e W' => ∃ b, e = .returned (.map (some b)) ∧ w.heap.size ≤ b ∧ Smap W' Tryd.prog 9 b n (plF nm (dn n 0)) ∧ Below w.heap.size w W' := by
  have hmm := fun W => run_makeMap_hint (P := Tryd.prog) 79 9 3 .i64 (n : Int) Tryd.underlying79 W
  refine callsIn_of_wp_marks Tryd.func32 rfl trivial ?_ rfl
  simp only [Tryd.ntmps32, List.size_toArray, List.length_cons, List.length_nil, Nat.reduceAdd, Nat.reduceSub, Array.replicate_succ, Array.replicate_zero, List.push_toArray, List.append_toArray, List.nil_append, List.cons_append]
  gi_wp2_with fail
  refine ⟨trivial, (callsIn_wide.2 (behind_any n g Bs _)).mono ?_⟩
  rintro e w' ⟨rfl, rfl⟩
  gi_wp2_with fail
  have z1 : ((w.alloc (.map #[] 0)).alloc (.cells #[.map (some w.heap.size)] 79)).heap.size = w.heap.size + 1 + 1 := sz1 _ _ (sz1 _ _ rfl)
  have z2 : (((w.alloc (.map #[] 0)).alloc (.cells #[.map (some w.heap.size)] 79)).alloc (.cells #[.int .i64 (n : Int)] 3)).heap.size = w.heap.size + 1 + 1 + 1 := sz1 _ _ z1
  have m0 : Smap ((((w.alloc (.map #[] 0)).alloc (.cells #[.map (some w.heap.size)] 79)).alloc (.cells #[.int .i64 (n : Int)] 3)).alloc (.cells #[fnV g Bs] 88)) Tryd.prog 9 w.heap.size 0 (fun _ => none) := (((Smap.made w _ _).alloc _).alloc _).alloc _
  have x1 := ((blk_at (w.alloc (.map #[] 0)) 79 #[.map (some w.heap.size)] (sz1 _ _ rfl)).alloc (.cells #[.int .i64 (n : Int)] 3)).alloc (.cells #[fnV g Bs] 88)
  have x2 := (blk_at ((w.alloc (.map #[] 0)).alloc (.cells #[.map (some w.heap.size)] 79)) 3 #[.int .i64 (n : Int)] z1).alloc (.cells #[fnV g Bs] 88)
  have x3 := blk_at (((w.alloc (.map #[] 0)).alloc (.cells #[.map (some w.heap.size)] 79)).alloc (.cells #[.int .i64 (n : Int)] 3)) 88 #[fnV g Bs] z2
  have B0 : Below w.heap.size w ((((w.alloc (.map #[] 0)).alloc (.cells #[.map (some w.heap.size)] 79)).alloc (.cells #[.int .i64 (n : Int)] 3)).alloc (.cells #[fnV g Bs] 88)) := bal (bal (bal (bal (Below.refl _ w) _) _) _) _
  have hs4 : ((((w.alloc (.map #[] 0)).alloc (.cells #[.map (some w.heap.size)] 79)).alloc (.cells #[.int .i64 (n : Int)] 3)).alloc (.cells #[fnV g Bs] 88)).heap.size = w.heap.size + 1 + 1 + 1 + 1 := sz1 _ _ z2
  clear z1 z2
  generalize (((w.alloc (.map #[] 0)).alloc (.cells #[.map (some w.heap.size)] 79)).alloc (.cells #[.int .i64 (n : Int)] 3)).alloc (.cells #[fnV g Bs] 88) = W0 at *
  have hs1 : w.heap.size ≤ W0.heap.size := by omega
  have HSZ := Lib.hid hs4; clear hs4
  refine wpIn_rangeFunc_ownH (α := Nat) (n := 5) rfl (show 1 ≤ 5 by decide) (gf := 55) (lb := #[.pointer (some ⟨w.heap.size + 1 + 1, 0, none⟩), .pointer (some ⟨w.heap.size + 1 + 1 + 1, 0, none⟩)]) rfl trivial (enters_of Tryd.func55 (by kernel_rfl) rfl)
    (behind1_stops (5 - 1) (w.heap.size + 1 + 1) (w.heap.size + 1 + 1 + 1) w.heap.size g Bs n nm W0 x2 x3 (by unfold maxLen; omega) hs1 heg (fun W' h => hnm W' (B0.trans h.b))) K2.tr (K2.put hs1 x2.lt x3.lt) (Below.refl _ _) (fun _ => rfl)
    (fun (pre : List Nat) W => (Smap W Tryd.prog 9 w.heap.size pre.length (plF nm pre) ∧ Blk W (w.heap.size + 1) 79 #[.map (some w.heap.size)] ∧ Blk W (w.heap.size + 1 + 1) 3 #[.int .i64 (n : Int)] ∧ Blk W (w.heap.size + 1 + 1 + 1) 88 #[fnV g Bs]) ∧ Below w.heap.size w W)
    (fun _ _ _ => False)
    (OwnFrom.and (OwnFrom.and (smap_from _ (by have := x2.lt; omega) (fun pre : List Nat => pre.length) (fun pre : List Nat => plF nm pre)) (OwnFrom.and (Own.from (blk_own _ _ _) _) (OwnFrom.and (Own.from (blk_own _ _ _) _) (Own.from (blk_own _ _ _) _)))) (ownFrom_below (Nat.le_refl _) hs1))
    (fun cd _ _ _ _ h _ _ => h)
    ⟨⟨m0, x1, x2, x3⟩, B0⟩
    (fun (x : Nat) a' _ => a' = { tmps := #[.int .i64 (n : Int), fnV g Bs, undef, undef, .map none, .pointer (some ⟨w.heap.size + 1, 0, none⟩), .int .i64 (x : Nat), .string (nm x), .int .i64 (n : Int), .map (some w.heap.size), .int .i64 (n : Int), fnV g Bs, itV (w.heap.size + 1 + 1) (w.heap.size + 1 + 1 + 1), .int .i64 (x : Nat), .string (nm x), undef, undef, undef, undef], defers := [] })
    (fun x a' _ X Y row hs hg hr => hs)
    ?assign ?body ?done ?stop
  case assign =>
    rintro lp pre x W K hI hK
    gi_wp2_with fail
    exact hK _ _ (KeepsFrom.refl _ _) (K2.rfl' _) hI rfl
  case body =>
    rintro lp pre x a' W hl ⟨r, hr⟩ ⟨⟨hm, y1, y2, y3⟩, hB⟩ rfl hlt
    have c1 : W.cell? ⟨w.heap.size + 1, 0, none⟩ = some (.map (some w.heap.size)) := y1.cell 0
    have hz := hsz x
    have hpl := Lib.hid (plF_snoc nm pre x)
    clear hmm
    generalize nm x = z at *
    gi_wp2_with (gi_at_mapUpdate; refine wpListIn_mput _ rfl _ _ _ 79 rfl 9 3 Tryd.underlying9 Tryd.underlying79 w.heap.size pre.length _ rfl hm (by unfold maxLen; omega) z rfl hz _ rfl ?_; intro w1 hm1 hg1)
    have n1 : w.heap.size + 1 ≠ w.heap.size := by omega
    have n2 : w.heap.size + 1 + 1 ≠ w.heap.size := by omega
    have n3 : w.heap.size + 1 + 1 + 1 ≠ w.heap.size := by omega
    refine ⟨KeepsFrom.of_grownBy hg1 (fun j e => by cases e; have := HSZ.out; omega), ⟨(Below.refl _ W).grown hg1 hB.size (fun k e => by cases e; exact Nat.le_refl _), hg1.block _ y2.lt (fun e => n2 (Option.some.inj e)), hg1.block _ y3.lt (fun e => n3 (Option.some.inj e))⟩, ⟨?_, y1.grown hg1 (fun e => n1 (Option.some.inj e)), y2.grown hg1 (fun e => n2 (Option.some.inj e)), y3.grown hg1 (fun e => n3 (Option.some.inj e))⟩, hB.grown hg1 hB.size (fun k e => by cases e; exact Nat.le_refl _)⟩
    rw [hpl.out, List.length_append]; exact hm1
  case done =>
    rintro D ys W hD rfl ⟨⟨hm, y1, y2, y3⟩, hB⟩ hK
    have c1 : W.cell? ⟨w.heap.size + 1, 0, none⟩ = some (.map (some w.heap.size)) := y1.cell 0
    have hDn : w.heap.size ≠ D := by have := y1.lt; have := HSZ.out; omega
    have hwD : w.heap.size ≤ D := by omega
    rw [dn_len] at hm
    gi_wp2_with fail
    refine ⟨by simp, .inl ⟨_, _, rfl, run_takeDeferred hK, ?_⟩⟩
    refine ⟨_, results_tmp rfl _ _ _, w.heap.size, rfl, Nat.le_refl _, hm.kept (grownBy_putObj' W D _) (fun e => hDn (Option.some.inj e)), hB.trans (belowK_b (w := w) (Nat.le_refl _) _ D _ _ hwD hK rfl rfl)⟩
  case stop =>
    rintro D cd pre W hD hpre h hK
    exact h.elim
theorem places_any (n g Bs : Nat) (nm : Nat → ByteArray) (l : List Key) (w : World) (hn : n ≤ 1000000) (hln : l.length = n) (hl : ∀ k, k < l.length → l[k]? = some (key (nm k))) (heg : ∀ args W, (callFunc g args).run Tryd.prog W = .ok (.enter g args) W) (hsz : ∀ k, (nm k).size ≤ maxLen)
    (hnm : ∀ W', Below w.heap.size w W' → ∀ k, k < n → Calls Tryd.prog g #[.int .i64 (k : Int), .pointer (some ⟨Bs, 0, none⟩)] W' fun e w' => e = .returned (.string (nm k)) ∧ W' = w') :
    Calls Tryd.prog 32 #[.int .i64 (n : Int), fnV g Bs] w fun e W' => ∃ b, e = .returned (.map (some b)) ∧ w.heap.size ≤ b ∧ Smap W' Tryd.prog 9 b n (plM l) ∧ Below w.heap.size w W' := by
  have := callsIn_wide.1 (places_in n g Bs nm w hn heg hsz hnm)
  rw [show plF nm (dn n 0) = plM l by rw [← hln]; exact plF_all nm l hl] at this
  exact this
end Go.Proofs.YtnoaeejdcdeanaaDoor.Lk
