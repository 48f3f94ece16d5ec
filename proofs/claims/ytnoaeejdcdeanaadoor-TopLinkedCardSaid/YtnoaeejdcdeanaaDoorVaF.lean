/-
  A SOURCE, CHECKED; FLAWS, ONE BEHIND THE OTHER; NAMES THAT WERE THERE AHEAD: walked.
-/
import Derived.Test.YtnoaeejdcdeanaaDoorVaE
import Derived.Test.YtnoaeejdcdeanaaDoorVaM
import Derived.Test.YtnoaeejdcdeanaaDoorLk5
namespace Go.Proofs.YtnoaeejdcdeanaaDoor.Va
open Go.ChangeShapes Go.WideShapes Go.ChangeAt Go.RowKit Go.Shelf
open Go.Proofs.YtnoaeejdcdeanaaDoor
open Go.Proofs.YtnoaeejdcdeanaaDoor.Wd
open Go.Proofs.YtnoaeejdcdeanaaDoor.Sr
open Go.Proofs.YtnoaeejdcdeanaaDoor.Sl
set_option linter.unusedVariables false
set_option linter.unusedSimpArgs false
open Go.Proofs.YtnoaeejdcdeanaaDoor.Civ (ret_int ret_bool)
open Go.Proofs.YtnoaeejdcdeanaaDoor.Nv (name_any)
open Go.Proofs.YtnoaeejdcdeanaaDoor.Ab (Tb)
open Go.Proofs.YtnoaeejdcdeanaaDoor.Lk (lead Right Txs nmB names_any stV info_str info_int zero_int own_slice)
open Go.Proofs.YtnoaeejdcdeanaaDoor.Mp (Smap mput mput_same mput_other wpList_look wpList_look_no wpList_look_yes wpList_mput wp_mput)
/-- a source is small, or has two links more -/
structure SoZ (h : Hd) (S : So) : Prop where
  rn : h.rn ≤ 40
  zn : h.zn ≤ 12
  ln : h.ln ≤ 22
  z : ∀ z ∈ S.zs, ZnS z
  r : ∀ r ∈ S.rs, RuS r
  l : ∀ l ∈ S.ls, LiS l
/-- a right source -/
structure SoOk (S : So) : Prop where
  r : ∀ r ∈ S.rs, RuOk r
  z : ∀ z ∈ S.zs, ZnRt z
  l : ∀ l ∈ S.ls, LiRt l
open Classical in
noncomputable def soE (S : So) : Int := if SoOk S then 0 else 2
theorem soE_no {S : So} (h : ¬ SoOk S) : Ending.returned (.int .i64 2) = Ending.returned (.int .i64 (soE S)) := by unfold soE; rw [if_neg h]
theorem soE_yes {S : So} (h : SoOk S) : Ending.returned (.int .i64 0) = Ending.returned (.int .i64 (soE S)) := by unfold soE; rw [if_pos h]
theorem soE_02 (S : So) : soE S = 0 ∨ soE S = 2 := by unfold soE; split <;> simp
theorem soE_0 {S : So} : soE S = 0 ↔ SoOk S := by
  unfold soE; by_cases h : SoOk S
  · rw [if_pos h]; exact ⟨fun _ => h, fun _ => rfl⟩
  · rw [if_neg h]; exact ⟨fun e => (by cases e), fun e => absurd e h⟩
set_option maxRecDepth 100000 in
set_option maxHeartbeats 12800000 in
theorem src_any (h : Hd) (S : So) (w : World) (hT : Tb w) (hS : SoR w w.heap.size h S) (hZ : SoZ h S) : Calls Tryd.prog 12 #[h.V] w fun e0 w' => e0 = .returned (.int .i64 (soE S)) ∧ Below w.heap.size w w' := by
  obtain ⟨rA, rn, rc, zA, zn, zc, lA, ln, lc⟩ := h
  have n1 := hZ.rn; have n2 := hZ.zn; have n3 := hZ.ln
  dsimp only at n1 n2 n3
  have e1 : ¬ (4096 : Int) < (rn : Int) := by omega
  have e2 : ¬ (1024 : Int) < (zn : Int) := by omega
  have e3 : ¬ (4096 : Int) < (ln : Int) := by omega
  have HC : Hd.C ⟨rA, rn, rc, zA, zn, zc, lA, ln, lc⟩ = #[.slice rA rn rc, .slice zA zn zc, .slice lA ln lc] := rfl
  have b := bal (Below.refl _ w) (.cells #[.slice rA rn rc, .slice zA zn zc, .slice lA ln lc] 26)
  have x := Blk.new w 26 #[.slice rA rn rc, .slice zA zn zc, .slice lA ln lc]
  have t1 : Tb (w.alloc (.cells #[.slice rA rn rc, .slice zA zn zc, .slice lA ln lc] 26)) := hT.bel ((Below.refl _ w).alloc (Nat.le_refl _) _)
  have hB : w.heap.size ≤ (w.alloc (.cells #[.slice rA rn rc, .slice zA zn zc, .slice lA ln lc] 26)).heap.size := b.size
  go_enter Tryd.func12, Tryd.ntmps12
  clear HC
  go_upto_region 1 with fail
  generalize w.alloc (.cells #[.slice rA rn rc, .slice zA zn zc, .slice lA ln lc] 26) = W at *
  obtain ⟨g, hg⟩ : ∃ g, w.heap.size = g := ⟨_, rfl⟩
  have xg : Blk W g 26 #[.slice rA rn rc, .slice zA zn zc, .slice lA ln lc] := by rw [← hg]; exact x
  rw [hg]
  have Hg := Lib.hid hg; clear hg x
  have c0 : W.cell? ⟨g, 0, none⟩ = some (.slice rA rn rc) := xg.cell 0
  have c1 : W.cell? ⟨g, 1, none⟩ = some (.slice zA zn zc) := xg.cell 1
  have c2 : W.cell? ⟨g, 2, none⟩ = some (.slice lA ln lc) := xg.cell 2
  by_cases p0 : ∀ a ∈ S.rs, RuOk a
  · have hc := containsRule rA rn rc w.heap.size S.rs W t1 (hS.r.below b) b.size (by omega) hS.rb false ⟨fun q => (by cases q), fun q => absurd p0 q⟩
    have P0 := Lib.hid p0; clear p0
    go_wp2_with fail
    refine hc.mono ?_; rintro e0 W2 ⟨rfl, hb⟩
    have x0 := xg.below hb xg.lt; have b0 := bcl b hb; have tt0 := t1.bel hb; clear hb hc
    have c0 : W2.cell? ⟨g, 0, none⟩ = some (.slice rA rn rc) := x0.cell 0
    have c1 : W2.cell? ⟨g, 1, none⟩ = some (.slice zA zn zc) := x0.cell 1
    have c2 : W2.cell? ⟨g, 2, none⟩ = some (.slice lA ln lc) := x0.cell 2
    by_cases p1 : ∀ a ∈ S.zs, ZnRt a
    · have hc := containsZone zA zn zc w.heap.size S.zs W2 tt0 (hS.z.below b0) b0.size (by omega) (fun a ha => ⟨(hS.zb a ha).below b0, hZ.z a ha⟩) false ⟨fun q => (by cases q), fun q => absurd p1 q⟩
      have P1 := Lib.hid p1; clear p1
      go_wp2_with fail
      refine hc.mono ?_; rintro e0 W3 ⟨rfl, hb⟩
      have x1 := x0.below hb x0.lt; have b1 := bcl b0 hb; have tt1 := tt0.bel hb; clear hb hc
      have c0 : W3.cell? ⟨g, 0, none⟩ = some (.slice rA rn rc) := x1.cell 0
      have c1 : W3.cell? ⟨g, 1, none⟩ = some (.slice zA zn zc) := x1.cell 1
      have c2 : W3.cell? ⟨g, 2, none⟩ = some (.slice lA ln lc) := x1.cell 2
      by_cases p2 : ∀ a ∈ S.ls, LiRt a
      · have hc := containsLink lA ln lc w.heap.size S.ls W3 tt1 (hS.l.below b1) b1.size (by omega) hS.lb false ⟨fun q => (by cases q), fun q => absurd p2 q⟩
        have P2 := Lib.hid p2; clear p2
        go_wp2_with fail
        refine hc.mono ?_; rintro e0 W4 ⟨rfl, hb⟩
        have x2 := x1.below hb x1.lt; have b2 := bcl b1 hb; have tt2 := tt1.bel hb; clear hb hc
        have c0 : W4.cell? ⟨g, 0, none⟩ = some (.slice rA rn rc) := x2.cell 0
        have c1 : W4.cell? ⟨g, 1, none⟩ = some (.slice zA zn zc) := x2.cell 1
        have c2 : W4.cell? ⟨g, 2, none⟩ = some (.slice lA ln lc) := x2.cell 2
        have HN := Lib.hid (show SoOk S from ⟨P0.out, P1.out, P2.out⟩)
        go_wp2_with fail
        go_ret
        exact ⟨soE_yes HN.out, b2⟩
      · have hc := containsLink lA ln lc w.heap.size S.ls W3 tt1 (hS.l.below b1) b1.size (by omega) hS.lb true ⟨fun _ => p2, fun _ => rfl⟩
        have HN := Lib.hid (show ¬ SoOk S from fun q => p2 q.l); clear p2
        go_wp2_with fail
        refine hc.mono ?_; rintro e0 W4 ⟨rfl, hb⟩
        have x2 := x1.below hb x1.lt; have b2 := bcl b1 hb; have tt2 := tt1.bel hb; clear hb hc
        have c0 : W4.cell? ⟨g, 0, none⟩ = some (.slice rA rn rc) := x2.cell 0
        have c1 : W4.cell? ⟨g, 1, none⟩ = some (.slice zA zn zc) := x2.cell 1
        have c2 : W4.cell? ⟨g, 2, none⟩ = some (.slice lA ln lc) := x2.cell 2
        go_wp2_with fail
        go_ret
        exact ⟨soE_no HN.out, b2⟩
    · have hc := containsZone zA zn zc w.heap.size S.zs W2 tt0 (hS.z.below b0) b0.size (by omega) (fun a ha => ⟨(hS.zb a ha).below b0, hZ.z a ha⟩) true ⟨fun _ => p1, fun _ => rfl⟩
      have HN := Lib.hid (show ¬ SoOk S from fun q => p1 q.z); clear p1
      go_wp2_with fail
      refine hc.mono ?_; rintro e0 W3 ⟨rfl, hb⟩
      have x1 := x0.below hb x0.lt; have b1 := bcl b0 hb; have tt1 := tt0.bel hb; clear hb hc
      have c0 : W3.cell? ⟨g, 0, none⟩ = some (.slice rA rn rc) := x1.cell 0
      have c1 : W3.cell? ⟨g, 1, none⟩ = some (.slice zA zn zc) := x1.cell 1
      have c2 : W3.cell? ⟨g, 2, none⟩ = some (.slice lA ln lc) := x1.cell 2
      go_wp2_with fail
      go_ret
      exact ⟨soE_no HN.out, b1⟩
  · have hc := containsRule rA rn rc w.heap.size S.rs W t1 (hS.r.below b) b.size (by omega) hS.rb true ⟨fun _ => p0, fun _ => rfl⟩
    have HN := Lib.hid (show ¬ SoOk S from fun q => p0 q.r); clear p0
    go_wp2_with fail
    refine hc.mono ?_; rintro e0 W2 ⟨rfl, hb⟩
    have x0 := xg.below hb xg.lt; have b0 := bcl b hb; have tt0 := t1.bel hb; clear hb hc
    have c0 : W2.cell? ⟨g, 0, none⟩ = some (.slice rA rn rc) := x0.cell 0
    have c1 : W2.cell? ⟨g, 1, none⟩ = some (.slice zA zn zc) := x0.cell 1
    have c2 : W2.cell? ⟨g, 2, none⟩ = some (.slice lA ln lc) := x0.cell 2
    go_wp2_with fail
    go_ret
    exact ⟨soE_no HN.out, b0⟩
theorem g_cell (w : World) (p : Addr) (v : Value) : w.grownBy (w.setCell p v) (some p.block) :=
  ⟨rfl, rfl, rfl, by simp [World.setCell], fun i _ hne => Below.heap_setCell w p v i (fun e => hne (by rw [e]))⟩
theorem own_of_heap {w w' : World} {base : Nat} {e : TypeId} {size n : Nat} {v : Value} {xs : List Value} (h : w.ownsRow base e size v n xs) (hk : ∀ g, v.ownBlock = some g → w'.heap[g]? = w.heap[g]?) : w'.ownsRow base e size v n xs := by
  refine ⟨h.1, ?_⟩
  rcases h.2 with hn | ⟨g, cap, cur, rfl, hb, hgg, rest⟩
  · exact .inl hn
  · exact .inr ⟨g, cap, cur, rfl, hb, (hk g (by simp [Value.ownBlock])).trans hgg, rest⟩
theorem own_own_ne {w : World} {base base' : Nat} {e e' : TypeId} {size n size' n' : Nat} {v v' : Value} {xs xs' : List Value} (h : w.ownsRow base e size v n xs) (h' : w.ownsRow base' e' size' v' n' xs') (hne : e ≠ e') {g : Nat} (hg : v.ownBlock = some g) : v'.ownBlock ≠ some g := by
  rcases h.2 with ⟨rfl, _⟩ | ⟨g1, cap, cur, rfl, _, hh, _⟩
  · simp [Value.ownBlock] at hg
  · have : g1 = g := by simpa [Value.ownBlock] using hg
    subst this
    exact own_blk_ne h' (show Blk w g1 e cur from hh) (Ne.symm hne)
/-- but for a block and a row all is as it was -/
structure Chg (p : Nat) (v : Value) (W W' : World) : Prop where
  size : W.heap.size ≤ W'.heap.size
  blk : ∀ b, b < W.heap.size → b ≠ p → v.ownBlock ≠ some b → W'.heap[b]? = W.heap[b]?
/-- a finder with the flaws so far -/
structure Fz (base : Nat) (W : World) (p : Nat) (h : Hd) (fl : List Fl) (v : Value) : Prop where
  f : Blk W p 64 #[.slice h.rA h.rn h.rc, .slice h.zA h.zn h.zc, .slice h.lA h.ln h.lc, v]
  o : W.ownsRow base 39 2 v fl.length (flat Fl.C fl)
  ge : base ≤ p
theorem Fz.below {base : Nat} {W W' : World} {p : Nat} {h : Hd} {fl : List Fl} {v : Value} (x : Fz base W p h fl v) (hb : Below W.heap.size W W') : Fz base W' p h fl v :=
  ⟨x.f.below hb x.f.lt, own_of_heap x.o (fun g hg => hb.block g (x.o.lt g hg).2), x.ge⟩
theorem Fz.grown {base : Nat} {W W' : World} {p : Nat} {h : Hd} {fl : List Fl} {v : Value} (x : Fz base W p h fl v) {m : Nat} (hg : W.grownBy W' (some m)) (hp : p ≠ m) (hm : v.ownBlock ≠ some m) : Fz base W' p h fl v :=
  ⟨x.f.grown hg (fun e => hp (Option.some.inj e)), x.o.kept hg (.inr hm), x.ge⟩
theorem Chg.below {base p : Nat} {v : Value} {W W' : World} (h : Chg p v W W') {w : World} : True := trivial
theorem info_fl : (Tryd.prog.info? 39).map (fun i => (i.zero, i.size, i.bytes)) = some (some (.agg #[.int .i64 0, .string ByteArray.empty]), 2, 24) := by kernel_rfl
theorem fl_one (f : Fl) : f.C.all (·.oneCell') = true := by simp [Value.oneCell']
theorem flat_snoc (l : List Fl) (f : Fl) : flat Fl.C (l ++ [f]) = flat Fl.C l ++ [.int .i64 f.e, .string f.n] := by rw [flat_append, flat_one]
def PutP (base : Nat) (W : World) (p : Nat) (h : Hd) (fl : List Fl) (v : Value) (f : Fl) (e0 : Ending) (W' : World) : Prop := e0 = .returned (.tuple #[]) ∧ ∃ v', Fz base W' p h (fl ++ [f]) v' ∧ Chg p v W W' ∧ Below base W W'
set_option maxRecDepth 20000 in
set_option maxHeartbeats 3200000 in
theorem put_any (base : Nat) (W : World) (p : Nat) (h : Hd) (fl : List Fl) (v : Value) (f : Fl) (x : Fz base W p h fl v) (hl : fl.length ≤ 100000) :
    Calls Tryd.prog 30 #[.pointer (some ⟨p, 0, none⟩), .int .i64 f.e, .string f.n] W (PutP base W p h fl v f) := by
  obtain ⟨i0, hi0, hz0, hz1, hz2⟩ := info_parts info_fl
  have c3 : W.cell? ⟨p, 3, none⟩ = some v := x.f.cell 3
  obtain ⟨A0, cc0, hv⟩ := own_slice x.o
  have hnew := Reads.of_own (w := W.alloc (.cells #[.int .i64 f.e, .string f.n] 39)) (base := 0) (e := 39) (size := 2) (A := some ⟨W.heap.size, 0, none⟩) (n := 1) (c := 1) (xs := [.int .i64 f.e, .string f.n]) ⟨rfl, .inr ⟨W.heap.size, 1, #[.int .i64 f.e, .string f.n], rfl, Nat.zero_le _, heap_alloc_new W _, Nat.le_refl _, by unfold maxLen; omega, rfl, rfl⟩⟩
  have oa := x.o.alloc (.cells #[.int .i64 f.e, .string f.n] 39)
  have xa := x.f.alloc (.cells #[.int .i64 f.e, .string f.n] 39)
  have ba := (Below.refl base W).alloc (Nat.le_trans x.ge (Nat.le_of_lt x.f.lt)) (.cells #[.int .i64 f.e, .string f.n] 39)
  have hlt := x.f.lt
  have hge := x.ge
  have hol := x.o.lt
  have hne : ∀ g, v.ownBlock = some g → g ≠ p := fun g hg e => own_blk_ne x.o x.f (by decide) (e ▸ hg)
  have HX := Lib.hid (show Fz base W p h fl v from x)
  have HI := Lib.hid hi0; clear hi0
  have Hne := Lib.hid hne; have Hol := Lib.hid hol
  clear x hne hol
  have Hv := Lib.hid hv; clear hv
  go_enter Tryd.func30, Tryd.ntmps30
  go_wp2_with (at_builtin; refine wpList_append_any _ rfl (.tmp 10) (.tmp 14) 33 rfl base 39 i0 _ 2 24 Tryd.underlying33 HI.out hz0 hz1 hz2 rfl (by decide) v fl.length _ rfl oa _ _ 1 1 _ rfl hnew (by simp [Value.oneCell']) (by unfold maxLen; omega) (by omega) (by rw [sz1 _ _ rfl]; omega) ?_; intro v1 w1 o1 g1 at1; obtain ⟨A1, cc1, rfl⟩ := own_slice o1; have x1 := xa.grown g1 (fun e => own_blk_ne oa xa (by decide) e.symm); have c4 : w1.cell? ⟨p, 3, none⟩ = some v := x1.cell 3; have f4 := x1.frozen 3)
  go_end0
  refine ⟨rfl, _, ⟨x1.set_ 3 _, ?_, hge⟩, ⟨?_, fun b hb hbp hbv => ?_⟩, ?_⟩
  · rw [List.length_append, List.length_singleton, flat_snoc]
    exact o1.kept (g_cell w1 ⟨p, 3, none⟩ _) (.inr (own_blk_ne o1 x1 (by decide)))
  · have := g1.size; rw [sz1 _ _ rfl] at this
    show W.heap.size ≤ (w1.setCell _ _).heap.size
    simp only [World.setCell, Array.size_modify]; omega
  · rw [Below.heap_setCell _ _ _ _ hbp, g1.block b (by rw [sz1 _ _ rfl]; omega) (fun e => hbv e.symm)]
    exact Below.heap_alloc _ _ _ hb
  · exact (ba.grown g1 (by rw [sz1 _ _ rfl]; omega) (fun k e => (oa.lt k e).1)).setCell (show base ≤ p from hge) _
/-- a map has just these keys -/
def Dom (m : Key → Option Value) (K : List Key) : Prop := ∀ s, (m s).isSome = true ↔ s ∈ K
theorem Dom.nil : Dom (fun _ => none) [] := fun s => by simp
theorem Dom.put {m : Key → Option Value} {K : List Key} (h : Dom m K) (b : Key) (u : Value) : Dom (mput m b u) (K ++ [b]) := fun s => by
  by_cases e : s = b
  · subst e; rw [mput_same]; simp
  · rw [mput_other e, h s]; simp [e]
theorem Dom.old {m : Key → Option Value} {K : List Key} (h : Dom m K) {b : Key} (hb : b ∈ K) : Dom m (K ++ [b]) := fun s => by
  rw [h s, List.mem_append]
  exact ⟨.inl, fun e => e.elim id fun e => by rw [List.mem_singleton.1 e]; exact hb⟩
theorem Dom.yes {m : Key → Option Value} {K : List Key} (h : Dom m K) {b : Key} (hb : b ∈ K) : ∃ u, m b = some u := Option.isSome_iff_exists.1 ((h b).2 hb)
theorem Dom.no {m : Key → Option Value} {K : List Key} (h : Dom m K) {b : Key} (hb : b ∉ K) : m b = none := by
  cases q : m b with
  | none => rfl
  | some u => exact absurd ((h b).1 (by rw [q]; rfl)) hb
theorem take_keys (l : List ByteArray) (k : Nat) (h : k < l.length) : (l.take (k + 1)).map key = (l.take k).map key ++ [key (l.getD k ByteArray.empty)] := by
  rw [getD_take ByteArray.empty h, List.map_append]; rfl
theorem flat_le {α β : Type} {f : α → List β} {c : Nat} (l : List α) (h : ∀ a ∈ l, (f a).length ≤ c) : (l.flatMap f).length ≤ l.length * c := by
  induction l with
  | nil => simp
  | cons a l ih =>
    have h1 := h a (List.mem_cons_self ..)
    have h2 := ih fun b hb => h b (List.mem_cons_of_mem _ hb)
    rw [List.flatMap_cons, List.length_append, List.length_cons, Nat.succ_mul]; omega
theorem twK_at {l : List ByteArray} {k : Nat} {b : ByteArray} (hb : l.getD k ByteArray.empty = b) : twK l (k + 1) = twK l k ++ if key b ∈ (l.take k).map key then [⟨8, b⟩] else [] := by subst hb; exact twK_succ l k
theorem twK_len (l : List ByteArray) (k : Nat) : (twK l k).length ≤ k := by
  unfold twK
  have := flat_le (c := 1) (f := fun i => if key (nm_ l i) ∈ (l.take i).map key then [(⟨8, nm_ l i⟩ : Fl)] else []) (List.range k) (fun a _ => by split <;> simp)
  simpa using this
/-- flaws more are found -/
def FzP (base : Nat) (w : World) (p : Nat) (h : Hd) (fl : List Fl) (e0 : Ending) (w' : World) : Prop := e0 = .returned (.tuple #[]) ∧ ∃ v', Fz base w' p h fl v' ∧ Below base w w'
theorem Smap.chg {W W' : World} {k b n p : Nat} {m : Key → Option Value} {v : Value} {base e size q : Nat} {xs : List Value} (hm : Smap W Tryd.prog k b n m) (hc : Chg p v W W') {t : TypeId} {cs : Array Value} (hp : Blk W p t cs) (ho : W.ownsRow base e size v q xs) : Smap W' Tryd.prog k b n m :=
  hm.of_block (hc.blk b hm.lt (hm.cells_ne hp) (Lk.own_map_ne ho hm).symm)
theorem Blk.chg {W W' : World} {p g : Nat} {v : Value} {base e size q : Nat} {xs : List Value} {t t' : TypeId} {cs cs' : Array Value} (x : Blk W g t cs) (hc : Chg p v W W') (hp : Blk W p t' cs') (ho : W.ownsRow base e size v q xs) (h1 : t ≠ t') (h2 : e ≠ t) : Blk W' g t cs :=
  (hc.blk g x.lt (x.ne_ hp h1) (own_blk_ne ho x h2)).trans x
theorem own_chg {W W' : World} {p : Nat} {v v' : Value} {base e size q base' e' size' q' : Nat} {xs xs' : List Value} {t' : TypeId} {cs' : Array Value} (x : W.ownsRow base e size v q xs) (hc : Chg p v' W W') (hp : Blk W p t' cs') (ho : W.ownsRow base' e' size' v' q' xs') (h1 : e ≠ t') (h2 : e ≠ e') : W'.ownsRow base e size v q xs :=
  own_of_heap x fun g hg => hc.blk g (x.lt g hg).2 (fun q => own_blk_ne x hp h1 (q ▸ hg)) (own_own_ne x ho h2 hg)
set_option maxRecDepth 100000 in
set_option maxHeartbeats 12800000 in
theorem twice_any (base p : Nat) (h : Hd) (S : So) (fl : List Fl) (v : Value) (w : World) (x : Fz base w p h fl v) (hS : SoR w base h S) (hz : h.zn ≤ 100) (hl : h.ln ≤ 100) (hf : fl.length ≤ 1000) :
    Calls Tryd.prog 15 #[.pointer (some ⟨p, 0, none⟩)] w (FzP base w p h (fl ++ twK (nmB S) (nmB S).length)) := by
  have hbw : base ≤ w.heap.size := Nat.le_trans x.ge (Nat.le_of_lt x.f.lt)
  have b0 := (Below.refl base w).alloc hbw (.map #[] 0)
  have x0 := x.below ((Below.refl _ w).alloc (Nat.le_refl _) (.map #[] 0))
  have m0 := Smap.made w Tryd.prog 9
  have hnm := names_any h S (w.alloc (.map #[] 0)) ((hS.below b0).more (Nat.le_trans hbw b0.size)) (by omega) (by omega)
  have hsz := Lk.nmB_size hS
  have hlen : (nmB S).length ≤ 200 := by rw [Lk.nmB_len, hS.z.len, hS.l.len]; omega
  have hl0 : (nmB S).length = (nmB S).length := rfl
  generalize nmB S = l at *
  have hmk := @run_makeMap Tryd.prog
  go_enter Tryd.func15, Tryd.ntmps15
  go_wp2_with (refine wpList_seg_g rfl 26 _ rfl p 0 #[.slice h.rA h.rn h.rc, .slice h.zA h.zn h.zc, .slice h.lA h.ln h.lc] rfl _ _ _ _ x0.f Tryd.underlying26 rfl (by kernel_rfl) (by rfl) ?_)
  refine hnm.mono ?_; rintro e0 W1 ⟨A0, c0, rfl, hown, hb⟩
  have x1 := x0.below hb
  have m1 := m0.below hb m0.lt
  have b1 := b0.trans (hb.mono (Nat.le_trans hbw b0.size))
  have hnb : base ≤ (w.alloc (.map #[] 0)).heap.size := Nat.le_trans hbw b0.size
  generalize (w.alloc (.map #[] 0)).heap.size = nb at *
  generalize w.heap.size = mb at *
  clear b0 x0 m0 hb hnm x hl0
  have HZ := Lib.hid hsz; clear hsz
  have hlI : (l.length : Int) ≤ 200 := by omega
  go_wp2_with fail
  go_loopw [3, 4, 5, 6, 14] (fun _ _ _ _ i wr => ∃ (k : Nat) (m : Key → Option Value) (v : Value), i = .int .i64 (k : Int) ∧ k ≤ l.length ∧ Fz base wr p h (fl ++ twK l k) v ∧ Smap wr Tryd.prog 9 mb k m ∧ Dom m ((l.take k).map key) ∧ wr.ownsRow nb 9 1 (.slice A0 l.length c0) l.length (stV l) ∧ Below base w wr) (fun _ _ _ _ i _ => l.length - (intOf i).toNat)
  case atStart => exact ⟨0, _, v, rfl, Nat.zero_le _, by rw [show twK l 0 = [] from rfl, List.append_nil]; exact x1, m1, Dom.nil, hown, b1⟩
  case round =>
    clear x1 m1 hown b1
    obtain ⟨k, m, v, rfl, hk, x, hm, hd, hown, b⟩ := hrel
    by_cases hlt : k < l.length
    · have hltI : (k : Int) < (l.length : Int) := by omega
      obtain ⟨ad, rfl, hc⟩ := Lk.Txs.own hown rfl hlt
      have hbz := HZ.out _ (getD_mem ByteArray.empty hlt)
      have HK := Lib.hid (take_keys l k hlt)
      have hfl : (fl ++ twK l k).length ≤ 100000 := by have := twK_len l k; rw [List.length_append]; omega
      have HD := Lib.hid hd; clear hd
      have HO := Lib.hid hown
      have hmm := hm
      obtain ⟨b1, hb1⟩ : ∃ b, l.getD k ByteArray.empty = b := ⟨_, rfl⟩
      rw [hb1] at hc hbz HK
      have HT := Lib.hid (twK_at hb1); clear hb1
      by_cases hin : key b1 ∈ (l.take k).map key
      · obtain ⟨u, hu⟩ := HD.out.yes hin
        have HT2 := Lib.hid (show twK l (k + 1) = twK l k ++ [⟨8, b1⟩] by rw [HT.out, if_pos hin])
        have HD2 := Lib.hid (HD.out.old hin)
        clear HT HD hin
        go_wp2_with (at_lookup; refine wpList_look_yes _ rfl _ _ 79 rfl 9 3 Tryd.underlying9 Tryd.underlying79 _ (zero_int _) mb k m rfl hmm b1 rfl hbz u hu ?_)
        refine (put_any base wr p h _ v ⟨8, b1⟩ x hfl).mono ?_; rintro e0 W2 ⟨rfl, v2, x2, hch, hb2⟩
        have hm2 := Smap.chg hm hch x.f x.o
        have ho2 := own_chg HO.out hch x.f x.o (by decide) (by decide)
        have b2 := b.trans hb2
        clear x hm hch hb2 b HO hc hmm hu hown
        go_wp2_with fail
        go_roundw
        case rel => exact ⟨k + 1, m, v2, by go_num, by omega, by rw [HT2.out, ← List.append_assoc]; exact x2, hm2.mono (Nat.le_succ _), by rw [HK.out]; exact HD2.out, ho2, b2⟩
        case measure => simp [intOf]; omega
      · have hu := HD.out.no hin
        have HT2 := Lib.hid (show twK l (k + 1) = twK l k by rw [HT.out, if_neg hin, List.append_nil])
        have HD2 := Lib.hid (HD.out.put (key b1) (.int .i64 (k : Int)))
        clear HT HD hin
        go_wp2_with (first | (at_lookup; refine wpList_look_no _ rfl _ _ 79 rfl 9 3 Tryd.underlying9 Tryd.underlying79 _ (zero_int _) mb k m rfl hmm b1 rfl hbz hu ?_) | (at_mapUpdate; refine wpList_mput _ rfl _ _ _ 79 rfl 9 3 Tryd.underlying9 Tryd.underlying79 mb k _ rfl hmm (by unfold maxLen; omega) b1 rfl hbz _ rfl ?_; intro W2 hm2 hg2))
        have x2 := x.grown hg2 (Ne.symm (hm.cells_ne x.f)) (Lk.own_map_ne x.o hm).symm
        have ho2 := HO.out.kept hg2 (.inr (Lk.own_map_ne HO.out hm).symm)
        have b2 := b.grown hg2 (Nat.le_trans x.ge (Nat.le_of_lt x.f.lt)) (fun q e => by cases e; exact hbw)
        clear x hm hg2 b HO hc hmm hu hown
        go_roundw
        case rel => exact ⟨k + 1, _, v, by go_num, by omega, by rw [HT2.out]; exact x2, hm2, by rw [HK.out]; exact HD2.out, ho2, b2⟩
        case measure => simp [intOf]; omega
    · obtain rfl : k = l.length := by omega
      have hltI : ¬ (l.length : Int) < (l.length : Int) := by omega
      clear hm hd hown
      go_wp2_with fail
      go_end0
      exact ⟨rfl, v, x, b⟩
end Go.Proofs.YtnoaeejdcdeanaaDoor.Va
