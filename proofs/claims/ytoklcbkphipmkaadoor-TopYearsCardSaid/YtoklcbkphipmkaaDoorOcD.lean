/-
  THE EVENTS OF A YEAR: almanac.year, walked.
-/
import Derived.Test.YtoklcbkphipmkaaDoorOcC
namespace Go.Proofs.YtoklcbkphipmkaaDoor.Oc
open Go.ChangeShapes Go.WideShapes Go.ChangeAt Go.RowKit
open Go.Proofs.YtoklcbkphipmkaaDoor
open Go.Proofs.YtoklcbkphipmkaaDoor.Wd
open Go.Proofs.YtoklcbkphipmkaaDoor.Sr
open Go.Proofs.YtoklcbkphipmkaaDoor.Sl
open Go.Proofs.YtoklcbkphipmkaaDoor.Civ (Tab)
open Go.Proofs.YtoklcbkphipmkaaDoor.Va (bal bcl)
open Go.Proofs.YtoklcbkphipmkaaDoor.Mi (Imap mput mput_same mput_other wpList_ilook wpList_iput)
set_option linter.unusedVariables false
set_option linter.unusedSimpArgs false
theorem own_of_heap {w w' : World} {base : Nat} {e : TypeId} {size n : Nat} {v : Value} {xs : List Value} (h : w.ownsRow base e size v n xs) (hk : ∀ g, v.ownBlock = some g → w'.heap[g]? = w.heap[g]?) : w'.ownsRow base e size v n xs := by
  refine ⟨h.1, ?_⟩
  rcases h.2 with hn | ⟨g, cap, cur, rfl, hb, hgg, rest⟩
  · exact .inl hn
  · exact .inr ⟨g, cap, cur, rfl, hb, (hk g (by simp [Value.ownBlock])).trans hgg, rest⟩
theorem own_ge {w : World} {base e size n : Nat} {v : Value} {xs : List Value} (h : w.ownsRow base e size v n xs) (g : Nat) (hg : v.ownBlock = some g) : base ≤ g ∧ g < w.heap.size := by
  rcases h.2 with ⟨rfl, _⟩ | ⟨g', cap, cur, rfl, hb, hh, _⟩
  · simp [Value.ownBlock] at hg
  · have : g' = g := by simpa [Value.ownBlock] using hg
    subst this
    exact ⟨hb, (Array.getElem?_eq_some_iff.1 hh).1⟩
theorem own_slice {w : World} {base e size n : Nat} {v : Value} {xs : List Value} (h : w.ownsRow base e size v n xs) : ∃ A c, v = .slice A n c := by
  rcases h.2 with ⟨rfl, rfl⟩ | ⟨g', cap, cur, rfl, _⟩
  · exact ⟨_, _, rfl⟩
  · exact ⟨_, _, rfl⟩
theorem own_below {w w' : World} {base e size n : Nat} {v : Value} {xs : List Value} (h : w.ownsRow base e size v n xs) (hb : Below w.heap.size w w') : w'.ownsRow base e size v n xs := own_of_heap h fun g hg => hb.block g (own_ge h g hg).2
theorem own_cap {w : World} {base e size n c : Nat} {A : Option Addr} {xs : List Value} (h : w.ownsRow base e size (.slice A n c) n xs) : n ≤ c := by
  rcases h.2 with ⟨e, rfl⟩ | ⟨g', cap, cur, e, _, _, hc, _⟩
  · exact Nat.zero_le _
  · injection e with _ _ e; omega
theorem sort_own (rs : List Ru) (L : List Pe) (A : Option Addr) (c : Nat) (w0 w : World) (ho : w.ownsRow w0.heap.size 80 7 (.slice A L.length c) L.length (flat (evC rs) L)) (b : Below w0.heap.size w0 w) (hl : L.length ≤ 1000000) :
    Calls Tryd.prog 27 #[.slice A L.length c, .func (.func 28) #[] #[]] w fun e w' => e = .returned (.tuple #[]) ∧
      ∃ L' : List Pe, L'.Perm L ∧ (∀ i j, i < j → j < L'.length → ¬ ltE rs (L'.getD j (0, 0)) (L'.getD i (0, 0))) ∧ Sls (evC rs) 7 w' w'.heap.size A L.length L' ∧ Below w0.heap.size w0 w' := by
  by_cases h0 : L.length = 0
  · have hL : L = [] := List.eq_nil_of_length_eq_zero h0
    subst hL
    refine (Tryd.sort_none A c _ w).mono ?_
    rintro e w' ⟨rfl, rfl⟩
    exact ⟨rfl, [], List.Perm.refl _, fun i j _ hj => by simp at hj, Sls.of_own rfl ho, b⟩
  · have hS := Sls.of_own rfl ho
    obtain ⟨g, cap, hA, hbg, hlt⟩ := ho.form (by omega)
    have hA2 : A = some ⟨g, 0, none⟩ := by injection hA
    subst hA2
    have hf : ∀ i, w.frozen? ⟨g, i, none⟩ = false := by
      rcases ho.2 with ⟨q, _⟩ | ⟨g', cap', cur, q, _, hh, _⟩
      · cases q
      · injection q with q; injection q with q; injection q with q
        subst q
        exact fun i => Blk.frozen (show Blk w _ _ cur from hh) i
    refine (sort_any rs g c L w hS (by omega) hlt hf hl).mono ?_
    rintro e w' ⟨rfl, L', h1, h2, h3, h4⟩
    exact ⟨rfl, L', h1, h2, h3, b.trans (h4.below hbg b.size)⟩
/-- the events of a year so far, as they are found -/
def rawK (rs : List Ru) (y : Int) (k : Nat) : List Pe := (((pls rs).take k).filter (occB rs y)).map fun p => (p, y)
theorem rawK_all (rs : List Ru) (y : Int) {n : Nat} (h : (pls rs).length = n) : rawK rs y n = rawY rs y := by unfold rawK rawY; rw [List.take_of_length_le (by omega)]
theorem rawK_yes {rs : List Ru} {y : Int} {k i : Nat} (h : k < (pls rs).length) (hi : (pls rs).getD k 0 = i) (ho : occB rs y i = true) : rawK rs y (k + 1) = rawK rs y k ++ [(i, y)] := by
  subst hi
  unfold rawK
  rw [getD_take 0 h, List.filter_append, List.map_append, List.filter_cons, if_pos ho]; rfl
theorem rawK_no {rs : List Ru} {y : Int} {k i : Nat} (h : k < (pls rs).length) (hi : (pls rs).getD k 0 = i) (ho : occB rs y i = false) : rawK rs y (k + 1) = rawK rs y k := by
  subst hi
  unfold rawK
  rw [getD_take 0 h, List.filter_append, List.map_append, List.filter_cons, if_neg (by rw [ho]; decide)]; simp
theorem rawK_len (rs : List Ru) (y : Int) (k : Nat) : (rawK rs y k).length ≤ rs.length := by
  unfold rawK
  rw [List.length_map]
  refine Nat.le_trans (List.length_filter_le _ _) ?_
  rw [List.length_take]
  have := plK_len rs rs.length
  unfold pls; unfold plK at this; omega
/-- a value that is the events of a year, in order, none of them in some blocks -/
def YearV (w : World) (X : Nat → Prop) (rs : List Ru) (y : Int) (v : Value) : Prop := ∃ (A : Option Addr) (n c : Nat) (L : List Pe), v = .slice A n c ∧ IsY rs y L ∧ Sls (evC rs) 7 w w.heap.size A n L ∧ n ≤ c ∧ ∀ ad, A = some ad → 0 < n → ¬ X ad.block
/-- an almanac, none of it in some blocks -/
structure Alm (w : World) (X : Nat → Prop) (base p mb n c : Nat) (A PA : Option Addr) (pn pc : Nat) (rs : List Ru) : Prop where
  f : Blk w p 78 #[.slice A n c, .slice PA pn pc, .map (some mb)]
  r : Sls Ru.C 11 w base A n rs
  pl : Sls plC 1 w w.heap.size PA pn (pls rs)
  m : ∃ (m : Int → Option Value) (ks : List Int), Imap w Tryd.prog 3 mb ks.length m ∧ ks.Nodup ∧ (∀ y ∈ ks, 0 ≤ y ∧ y ≤ 10000) ∧ (∀ y, m y = none → y ∉ ks) ∧ ∀ y v, m y = some v → YearV w X rs y v
  t : Tab w
  ge : base ≤ mb ∧ base ≤ p
  bd : ∀ r ∈ rs, r.Bd
  nm : n ≤ 1000
  xb : ∀ b, X b → base ≤ b ∧ b < w.heap.size
  xp : ¬ X p ∧ ¬ X mb
  xl : ∀ ad, PA = some ad → 0 < pn → ¬ X ad.block
  tb : 0 < base
theorem imap_map {w : World} {P : Program} {k : TypeId} {b n : Nat} {m : Int → Option Value} (h : Imap w P k b n m) : IsMap w b := by
  obtain ⟨D, ⟨es, clock, h1, _⟩, _⟩ := h
  exact ⟨es, clock, h1⟩
/-- what does not lie in some blocks is kept -/
structure Kp (X : Nat → Prop) (w w' : World) : Prop where
  size : w.heap.size ≤ w'.heap.size
  block : ∀ k, k < w.heap.size → ¬ X k → w'.heap[k]? = w.heap[k]?
section
variable {w w' : World} {X : Nat → Prop} {base p mb n c pn pc : Nat} {A PA : Option Addr} {rs : List Ru}
theorem Kp.of (hb : Below w.heap.size w w') : Kp X w w' := ⟨hb.size, fun k hk _ => hb.block k hk⟩
theorem Kp.row {g : Nat} (hg : X g) (ds : Array Value) : Kp X w (w.setRow g ds) := ⟨by rw [World.setRow]; simp, fun k _ hn => setRow_other w g k ds (fun e => hn (e ▸ hg))⟩
theorem Kp.grown {row : Option Nat} (hg : w.grownBy w' row) (h : ∀ k, row = some k → X k) : Kp X w w' := ⟨hg.size, fun k hk hn => hg.block k hk (fun e => hn (h k e.symm))⟩
theorem reads_kp {C size n : Nat} {A : Option Addr} {xs : List Value} (x : Reads w C size A n xs) (h : Kp X w w') (hx : ∀ ad, A = some ad → 0 < n → ¬ X ad.block) (hC : C ≤ w.heap.size) : Reads w' C size A n xs :=
  ⟨x.1, fun hn => by
    obtain ⟨ad, e, hb, hc⟩ := x.2 hn
    exact ⟨ad, e, hb, fun j u hu => (World.cell?_of_block (w := w) (h.block _ (by rw [Wd.block_of_add]; omega) (by rw [Wd.block_of_add]; exact hx ad e hn))).trans (hc j u hu)⟩⟩
theorem sls_kp {α : Type} {f : α → Array Value} {sz C n : Nat} {A : Option Addr} {L : List α} (x : Sls f sz w C A n L) (h : Kp X w w') (hx : ∀ ad, A = some ad → 0 < n → ¬ X ad.block) (hC : C ≤ w.heap.size) : Sls f sz w' C A n L :=
  ⟨x.len, reads_kp x.r h hx hC⟩
theorem YearV.kp {y : Int} {v : Value} (h : YearV w X rs y v) (hb : Kp X w w') : YearV w' X rs y v := by
  obtain ⟨A', n', c', L, h1, h2, h3, h4, h5⟩ := h
  exact ⟨A', n', c', L, h1, h2, (sls_kp h3 hb h5 (Nat.le_refl _)).more hb.size, h4, h5⟩
theorem YearV.but {y : Int} {v : Value} (h : YearV w X rs y v) (hm : IsMap w mb) (hb : But mb w.heap.size w w') : YearV w' X rs y v := by
  obtain ⟨A', n', c', L, h1, h2, h3, h4, h5⟩ := h
  exact ⟨A', n', c', L, h1, h2, (sls_but h3 hm hb (Nat.le_refl _)).more hb.size, h4, h5⟩
theorem Alm.map (h : Alm w X base p mb n c A PA pn pc rs) : IsMap w mb := by obtain ⟨m, ks, hm, _⟩ := h.m; exact imap_map hm
theorem Alm.mlt (h : Alm w X base p mb n c A PA pn pc rs) : mb < w.heap.size := by obtain ⟨m, ks, hm, _⟩ := h.m; exact hm.lt
theorem Alm.bw (h : Alm w X base p mb n c A PA pn pc rs) : base ≤ w.heap.size := Nat.le_trans h.ge.1 (Nat.le_of_lt h.mlt)
theorem Alm.pnn (h : Alm w X base p mb n c A PA pn pc rs) : pn ≤ n := by have := plK_len rs rs.length; have h1 := h.pl.len; have h2 := h.r.len; unfold pls at h1; unfold plK at this; omega
theorem tab_but (h : Tab w) (hm : IsMap w mb) (hb : But mb w.heap.size w w') : Tab w' :=
  ⟨Nat.lt_of_lt_of_le h.1 hb.size, fun i hi => by
    have := h.2 i hi
    exact (hb.cell (World.block_lt_of_cell? w _ this) (hm.cell this)).trans this⟩
theorem Alm.kp (h : Alm w X base p mb n c A PA pn pc rs) (hb : Kp X w w') : Alm w' X base p mb n c A PA pn pc rs := by
  obtain ⟨m, ks, h1, h2, h3, h4, h5⟩ := h.m
  refine ⟨(hb.block p h.f.lt h.xp.1).trans h.f, ?_, (sls_kp h.pl hb h.xl (Nat.le_refl _)).more hb.size, ⟨m, ks, h1.of_block (hb.block mb h1.lt h.xp.2), h2, h3, h4, fun y v hv => (h5 y v hv).kp hb⟩, ⟨Nat.lt_of_lt_of_le h.t.1 hb.size, fun i hi => ?_⟩, h.ge, h.bd, h.nm, fun b hx => ⟨(h.xb b hx).1, Nat.lt_of_lt_of_le (h.xb b hx).2 hb.size⟩, h.xp, h.xl, h.tb⟩
  · refine ⟨h.r.len, h.r.r.keep fun q hq => World.cell?_of_block (w := w) (hb.block _ (Nat.lt_of_lt_of_le hq h.bw) (fun hx => ?_))⟩
    have := (h.xb _ hx).1; omega
  · have := h.t.2 i hi
    exact (World.cell?_of_block (w := w) (hb.block _ (World.block_lt_of_cell? w _ this) (fun hx => by have h1 := (h.xb _ hx).1; have h2 := h.tb; exact absurd h2 (by show ¬ _ < base; exact Nat.not_lt_of_le h1)))).trans this
theorem Alm.below (h : Alm w X base p mb n c A PA pn pc rs) (hb : Below w.heap.size w w') : Alm w' X base p mb n c A PA pn pc rs := h.kp (Kp.of hb)
theorem Alm.drew (h : Alm w X base p mb n c A PA pn pc rs) : Alm w.drew X base p mb n c A PA pn pc rs := h.below (Below.refl _ _).drew
theorem below_drewN (B : Nat) (w : World) (k : Nat) : Below B w (w.drewN k) := ⟨rfl, rfl, rfl, Nat.le_refl _, fun _ _ => rfl⟩
theorem Alm.drewN (h : Alm w X base p mb n c A PA pn pc rs) (k : Nat) : Alm (w.drewN k) X base p mb n c A PA pn pc rs := h.below (below_drewN _ w k)
theorem But.drewN {mb B : Nat} {a w : World} (h : But mb B a w) (k : Nat) : But mb B a (w.drewN k) := h.trans (But.of (below_drewN B w k))
theorem Alm.alloc (h : Alm w X base p mb n c A PA pn pc rs) (o : Obj) : Alm (w.alloc o) X base p mb n c A PA pn pc rs := h.below ((Below.refl _ _).alloc (Nat.le_refl _) o)
/-- more blocks, that are new -/
theorem Alm.wide (h : Alm w X base p mb n c A PA pn pc rs) (hb : Kp X w w') {Y : Nat → Prop} (hY : ∀ b, Y b → w.heap.size ≤ b ∧ b < w'.heap.size) : Alm w' (fun b => X b ∨ Y b) base p mb n c A PA pn pc rs := by
  have h' := h.kp hb
  have hlt : ∀ {b : Nat}, b < w.heap.size → ¬ X b → ¬ (X b ∨ Y b) := fun h1 h2 q => by
    rcases q with q | q
    · exact h2 q
    · have := (hY _ q).1; omega
  obtain ⟨m, ks, h1, h2, h3, h4, h5⟩ := h.m
  refine ⟨h'.f, h'.r, h'.pl, ⟨m, ks, h1.of_block (hb.block mb h1.lt h.xp.2), h2, h3, h4, fun y v hv => ?_⟩, h'.t, h.ge, h.bd, h.nm, fun b q => ?_, ⟨hlt h.f.lt h.xp.1, hlt h1.lt h.xp.2⟩, fun ad e hn => ?_, h.tb⟩
  · obtain ⟨A', n', c', L, e1, e2, e3, e4, e5⟩ := h5 y v hv
    refine ⟨A', n', c', L, e1, e2, (sls_kp e3 hb e5 (Nat.le_refl _)).more hb.size, e4, fun ad e hn => ?_⟩
    obtain ⟨ad', e', hl, _⟩ := e3.r.2 hn
    rw [e] at e'; injection e' with e'; subst e'
    exact hlt hl (e5 ad e hn)
  · rcases q with q | q
    · exact h'.xb b q
    · have := hY b q; have := h.bw; omega
  · obtain ⟨ad', e', hl, _⟩ := h.pl.r.2 hn
    rw [e] at e'; injection e' with e'; subst e'
    exact hlt hl (h.xl ad e hn)
theorem Alm.less {X' : Nat → Prop} (h : Alm w X base p mb n c A PA pn pc rs) (hx : ∀ b, X' b → X b) : Alm w X' base p mb n c A PA pn pc rs := by
  obtain ⟨m, ks, h1, h2, h3, h4, h5⟩ := h.m
  refine ⟨h.f, h.r, h.pl, ⟨m, ks, h1, h2, h3, h4, fun y v hv => ?_⟩, h.t, h.ge, h.bd, h.nm, fun b q => h.xb b (hx b q), ⟨fun q => h.xp.1 (hx _ q), fun q => h.xp.2 (hx _ q)⟩, fun ad e hn q => h.xl ad e hn (hx _ q), h.tb⟩
  obtain ⟨A', n', c', L, e1, e2, e3, e4, e5⟩ := h5 y v hv
  exact ⟨A', n', c', L, e1, e2, e3, e4, fun ad e hn q => e5 ad e hn (hx _ q)⟩
/-- a year more -/
theorem Alm.put (h : Alm w X base p mb n c A PA pn pc rs) (hg : w.grownBy w' (some mb)) {m : Int → Option Value} {ks : List Int} {y : Int} {v : Value} (hm : Imap w' Tryd.prog 3 mb (ks.length + 1) (mput m y v)) (h2 : ks.Nodup) (h3 : ∀ y ∈ ks, 0 ≤ y ∧ y ≤ 10000)
    (h4 : ∀ y, m y = none → y ∉ ks) (h5 : ∀ y v, m y = some v → YearV w X rs y v) (hn : m y = none) (hy : 0 ≤ y ∧ y ≤ 10000) (hv : YearV w X rs y v) : Alm w' X base p mb n c A PA pn pc rs := by
  have hb : But mb w.heap.size w w' := (But.refl mb _ w).grown hg (Nat.le_refl _) (fun k e => .inr (by injection e with e; exact e.symm))
  refine ⟨Blk.but h.f h.map hb h.f.lt, sls_but h.r h.map hb h.bw, (sls_but h.pl h.map hb (Nat.le_refl _)).more hb.size, ⟨mput m y v, y :: ks, hm, List.nodup_cons.2 ⟨h4 y hn, h2⟩, fun z hz => ?_, fun z hz => ?_, fun z u hu => ?_⟩, tab_but h.t h.map hb, h.ge, h.bd, h.nm, fun b hx => ⟨(h.xb b hx).1, Nat.lt_of_lt_of_le (h.xb b hx).2 hb.size⟩, h.xp, h.xl, h.tb⟩
  · rcases List.mem_cons.1 hz with rfl | hz
    · exact hy
    · exact h3 z hz
  · by_cases q : z = y
    · rw [q, mput_same] at hz; cases hz
    · rw [mput_other q] at hz
      intro hz2
      rcases List.mem_cons.1 hz2 with e | e
      · exact q e
      · exact h4 z hz e
  · by_cases q : z = y
    · subst q
      rw [mput_same] at hu
      injection hu with hu
      subst hu
      exact hv.but h.map hb
    · rw [mput_other q] at hu
      exact (h5 z u hu).but h.map hb
end
theorem ks_len {ks : List Int} (h : ks.Nodup) (hb : ∀ y ∈ ks, 0 ≤ y ∧ y ≤ 10000) : ks.length ≤ 10001 := by
  have := Lk.nodup_le (l := ks) (m := (List.range 10001).map fun i : Nat => (i : Int)) h (fun x hx => by
    have := hb x hx
    exact List.mem_map.2 ⟨x.toNat, List.mem_range.2 (by omega), by omega⟩)
  simpa using this
theorem info_ev : (Tryd.prog.info? 80).map (fun i => (i.zero, i.size, i.bytes)) = some (some (.agg evZ), 7, 64) := by kernel_rfl
theorem ev_one (rs : List Ru) (e : Pe) : (evC rs e).all (·.oneCell') = true := by simp [Value.oneCell']
/-- what year answers -/
def YrP (w : World) (X : Nat → Prop) (base p mb n c : Nat) (A PA : Option Addr) (pn pc : Nat) (rs : List Ru) (y : Int) (e : Ending) (w' : World) : Prop :=
  ∃ v, e = .returned v ∧ YearV w' X rs y v ∧ Alm w' X base p mb n c A PA pn pc rs ∧ But mb w.heap.size w w'
set_option maxRecDepth 100000 in
set_option maxHeartbeats 6400000 in
theorem year_any (X : Nat → Prop) (base p mb n c : Nat) (A PA : Option Addr) (pn pc : Nat) (rs : List Ru) (y : Int) (w : World) (al : Alm w X base p mb n c A PA pn pc rs) (hy : 0 ≤ y ∧ y ≤ 10000) :
    Calls Tryd.prog 24 #[.pointer (some ⟨p, 0, none⟩), .int .i64 y] w (YrP w X base p mb n c A PA pn pc rs y) := by
  obtain ⟨m, ks, hm, hnd, hks, hno, hys⟩ := al.m
  have c1 : w.cell? ⟨p, 1, none⟩ = some (.slice PA pn pc) := al.f.cell 1
  have c2 : w.cell? ⟨p, 2, none⟩ = some (.map (some mb)) := al.f.cell 2
  have hwf : (Lit.int .i64 y).wf = true := by simp [Lit.wf, IntKind.min, IntKind.max, IntKind.bits, IntKind.signed]; omega
  have hz : (zeroValue 73).run Tryd.prog w = .ok (.slice none 0 0) w := by kernel_rfl
  have hpn := al.pnn; have hnm := al.nm; have hrl := al.r.len
  cases hmy : m y with
  | some v =>
    have hv := hys y v hmy
    obtain ⟨A', n', c', L, rfl, hL, hS, hnc, hxx⟩ := hv
    go_enter Tryd.func24, Tryd.ntmps24
    go_wp2_with (at_lookup; refine Mi.wpList_ilook_yes _ rfl _ _ 76 rfl 3 73 Tryd.underlying3 Tryd.underlying76 _ hz mb ks.length m rfl hm y rfl hwf _ hmy ?_)
    go_ret
    exact ⟨_, rfl, ⟨A', n', c', L, rfl, hL, hS, hnc, hxx⟩, al, But.refl _ _ _⟩
  | none =>
    have HNO := Lib.hid hno; have HYS := Lib.hid hys; have HKS := Lib.hid hks; have HND := Lib.hid hnd
    clear hno hys hks hnd
    obtain ⟨i0, hi0, hz0, hz1, hz2⟩ := info_parts info_ev
    have HI := Lib.hid hi0; clear hi0
    go_enter Tryd.func24, Tryd.ntmps24
    go_upto_region 6 with (at_lookup; refine Mi.wpList_ilook_no _ rfl _ _ 76 rfl 3 73 Tryd.underlying3 Tryd.underlying76 _ hz mb ks.length m rfl hm y rfl hwf hmy ?_)
    have HM := Lib.hid hm
    clear c1 c2 hm
    go_loopw [7, 9, 10, 11, 28] (fun v _ _ _ i wr => ∃ k : Nat, i = .int .i64 (k : Int) ∧ k ≤ pn ∧ wr.ownsRow w.heap.size 80 7 v (rawK rs y k).length (flat (evC rs) (rawK rs y k)) ∧ Below w.heap.size w wr) (fun _ _ _ _ i _ => pn - (intOf i).toNat)
    case atStart => exact ⟨0, rfl, Nat.zero_le _, ⟨rfl, .inl ⟨rfl, rfl⟩⟩, Below.refl _ _⟩
    case round =>
      obtain ⟨k, rfl, hk, ho, b⟩ := hrel
      have al2 := al.below b
      by_cases hlt : k < pn
      · have hltI : (k : Int) < (pn : Int) := by omega
        have hkl : k < (pls rs).length := by rw [al.pl.len]; exact hlt
        obtain ⟨pd, eA, hprow⟩ := al2.pl.row (fun _ => rfl) 0 hlt
        subst eA
        obtain ⟨i, hi⟩ : ∃ i, (pls rs).getD k 0 = i := ⟨_, rfl⟩
        have hin : i < n := by rw [← hi, ← hrl]; exact pls_lt (getD_mem (L := pls rs) 0 hkl)
        rw [hi] at hprow
        have HKY := Lib.hid (fun h => rawK_yes (y := y) hkl hi h); have HKN := Lib.hid (fun h => rawK_no (y := y) hkl hi h)
        clear hi
        have cp : wr.cell? (pd.add k) = some (.int .i64 (i : Int)) := by
          have := row_c0 hprow (v := .int .i64 (i : Int)) rfl
          rwa [Nat.mul_one] at this
        have hat := at_any base p i n c A rs _ _ y wr al2.f al2.r al2.bw hin (al.bd _ (getD_mem (L := rs) Ru.nil (by omega))) al2.t
        have hkl2 := rawK_len rs y k
        obtain ⟨xs, hxs⟩ : ∃ xs, flat (evC rs) (rawK rs y k) = xs := ⟨_, rfl⟩
        obtain ⟨N, hN⟩ : ∃ N, (rawK rs y k).length = N := ⟨_, rfl⟩
        rw [hxs, hN] at ho
        rw [hN] at hkl2
        have HXS := Lib.hid hxs; have HNN := Lib.hid hN; clear hxs hN hprow hkl
        go_upto_region 8 with fail
        clear cp
        by_cases hoc : occB rs y i = true
        · rw [show atR rs y i = .tuple #[.agg (evC rs (i, y)), .bool true] from if_pos hoc] at hat
          obtain ⟨T, K, S, LT, hE⟩ : ∃ T K S LT, evC rs (i, y) = #[.int .i64 T, .int .u8 K, .int .i64 S, .int .i64 0, .string LT, .int .i64 (i : Int), .int .i64 y] := ⟨_, _, _, _, rfl⟩
          rw [hE] at hat
          have HE := Lib.hid hE; clear hE
          have HK := Lib.hid (HKY.out hoc); clear HKY HKN hoc
          go_upto_region 9 with (first | (refine wpList_store_new rfl 80 _ _ rfl rfl _ (#[.int .i64 T, .int .u8 K, .int .i64 S, .int .i64 0, .string LT, .int .i64 (i : Int), .int .i64 y]) rfl rfl _ evZ _ rfl rfl rfl (by kernel_rfl) (by simp [Value.oneCell']) ?_) | (go_at_call 26; refine hat.mono ?_; rintro e W2 ⟨rfl, hb2⟩))
          have o2 := own_below ho hb2; have b2 := bcl b hb2
          clear hb2 ho b hat al2
          have o3 := o2.alloc (.cells (#[.int .i64 T, .int .u8 K, .int .i64 S, .int .i64 0, .string LT, .int .i64 (i : Int), .int .i64 y]) 80); have b3 := bal b2 (.cells (#[.int .i64 T, .int .u8 K, .int .i64 S, .int .i64 0, .string LT, .int .i64 (i : Int), .int .i64 y]) 80); have y3 := Blk.new W2 80 (#[.int .i64 T, .int .u8 K, .int .i64 S, .int .i64 0, .string LT, .int .i64 (i : Int), .int .i64 y])
          clear o2 b2
          generalize W2.alloc (.cells (#[.int .i64 T, .int .u8 K, .int .i64 S, .int .i64 0, .string LT, .int .i64 (i : Int), .int .i64 y]) 80) = W3 at *
          obtain ⟨q, hq⟩ : ∃ q, W2.heap.size = q := ⟨_, rfl⟩
          simp only [hq] at y3 ⊢
          clear hq
          have o4 := o3.alloc (.cells (#[.int .i64 T, .int .u8 K, .int .i64 S, .int .i64 0, .string LT, .int .i64 (i : Int), .int .i64 y]) 80); have b4 := bal b3 (.cells (#[.int .i64 T, .int .u8 K, .int .i64 S, .int .i64 0, .string LT, .int .i64 (i : Int), .int .i64 y]) 80)
          have hnew := Reads.of_own (w := W3.alloc (.cells (#[.int .i64 T, .int .u8 K, .int .i64 S, .int .i64 0, .string LT, .int .i64 (i : Int), .int .i64 y]) 80)) (base := 0) (e := 80) (size := 7) (A := some ⟨W3.heap.size, 0, none⟩) (n := 1) (c := 1) (xs := (#[.int .i64 T, .int .u8 K, .int .i64 S, .int .i64 0, .string LT, .int .i64 (i : Int), .int .i64 y] : Array Value).toList) ⟨rfl, .inr ⟨W3.heap.size, 1, #[.int .i64 T, .int .u8 K, .int .i64 S, .int .i64 0, .string LT, .int .i64 (i : Int), .int .i64 y], rfl, Nat.zero_le _, heap_alloc_new W3 _, Nat.le_refl _, by unfold maxLen; omega, rfl, rfl⟩⟩
          have hone : ∀ u ∈ (#[.int .i64 T, .int .u8 K, .int .i64 S, .int .i64 0, .string LT, .int .i64 (i : Int), .int .i64 y] : Array Value).toList, u.oneCell' = true := by
            intro u hu; simp at hu; rcases hu with rfl | rfl | rfl | rfl | rfl | rfl | rfl <;> rfl
          have B4 := Lib.hid b4.size
          have HONE := Lib.hid hone; clear hone
          go_wp2_with (first | (refine wpList_row_g rfl 80 _ rfl _ rfl _ _ _ _ y3 Tryd.underlying80 rfl (by kernel_rfl) ?_) | (at_builtin; refine wpList_append_any _ rfl _ _ 73 rfl w.heap.size 80 i0 _ 7 64 Tryd.underlying73 HI.out hz0 hz1 hz2 rfl (by decide) _ N _ rfl o4 _ _ 1 1 _ rfl hnew HONE.out (by unfold maxLen; omega) (by omega) B4.out ?_; intro v5 w5 o5 g5 _; have HG := Lib.hid g5; clear g5))
          have b5 := b4.grown HG.out B4.out (fun k e => (own_ge o4 k e).1)
          have HR := Lib.hid (show w5.ownsRow w.heap.size 80 7 v5 (rawK rs y (k + 1)).length (flat (evC rs) (rawK rs y (k + 1))) from by rw [HK.out, List.length_append, HNN.out, flat_append, flat_one, HXS.out, HE.out]; exact o5)
          clear o5 o4 o3 hnew y3 b4 b3
          go_wp2_with fail
          go_roundw
          case rel => exact ⟨k + 1, by go_num, by omega, HR.out, b5⟩
          case measure => simp [intOf]; omega
        · rw [show atR rs y i = .tuple #[.agg evZ, .bool false] from if_neg hoc] at hat
          have HK := Lib.hid (HKN.out (by simpa using hoc)); clear HKY HKN hoc
          go_upto_region 9 with (first | (refine wpList_store_new rfl 80 _ _ rfl rfl _ evZ rfl rfl _ evZ _ rfl rfl rfl (by kernel_rfl) (by kernel_rfl) ?_) | (go_at_call 26; refine hat.mono ?_; rintro e W2 ⟨rfl, hb2⟩))
          have o2 := own_below ho hb2; have b2 := bcl b hb2
          clear hb2 ho b hat al2
          have o3 := o2.alloc (.cells evZ 80); have b3 := bal b2 (.cells evZ 80)
          clear o2 b2
          have HR := Lib.hid (show (W2.alloc (.cells evZ 80)).ownsRow w.heap.size 80 7 _ (rawK rs y (k + 1)).length (flat (evC rs) (rawK rs y (k + 1))) from by rw [HK.out, HNN.out, HXS.out]; exact o3)
          clear o3
          generalize W2.alloc (.cells evZ 80) = W3 at *
          go_wp2_with fail
          go_roundw
          case rel => exact ⟨k + 1, by go_num, by omega, HR.out, b3⟩
          case measure => simp [intOf]; omega
      · obtain rfl : k = pn := by omega
        have hltI : ¬ (k : Int) < (k : Int) := by omega
        rw [rawK_all rs y al.pl.len] at ho
        have hlen := raw_len rs y
        obtain ⟨A', c', rfl⟩ := own_slice ho
        have hso := sort_own rs (rawY rs y) A' c' w wr ho b (by omega)
        have hcap := own_cap ho
        have hxx : ∀ ad, A' = some ad → 0 < (rawY rs y).length → ¬ X ad.block := fun ad e _ q => by
          have h1 := (own_ge ho ad.block (by rw [e]; rfl)).1; have h2 := (al.xb _ q).2; omega
        have HXX := Lib.hid hxx; clear hxx
        clear ho
        generalize (rawY rs y).length = N at *
        go_wp2_with fail
        refine hso.mono ?_; rintro e w3 ⟨rfl, L', p1, p2, p3, b3⟩
        have al3 := al.below b3
        have f3 : w3.cell? ⟨p, 2, none⟩ = some (.map (some mb)) := al3.f.cell 2
        obtain ⟨m3, hm3⟩ : ∃ x : Imap w3 Tryd.prog 3 mb ks.length m, True := ⟨HM.out.below b3 HM.out.lt, trivial⟩
        have HP := Lib.hid (And.intro p1 p2); clear p1 p2 hso
        go_wp2_with (at_mapUpdate; refine wpList_iput _ rfl _ _ _ 76 rfl 3 73 Tryd.underlying3 Tryd.underlying76 mb ks.length _ rfl m3 (by have := ks_len HND.out HKS.out; unfold maxLen; omega) y rfl hwf (.slice A' N c') rfl ?_; intro w4 hm4 hg4)
        go_ret
        have hv3 : YearV w3 X rs y (.slice A' N c') := ⟨A', N, c', L', rfl, ⟨HP.out.1, HP.out.2⟩, p3, hcap, HXX.out⟩
        have hbut : But mb w.heap.size w w4 := (But.of b3).grown hg4 (Nat.le_refl _) (fun k e => .inr (by injection e with e; exact e.symm))
        have hb4 : But mb w3.heap.size w3 w4 := (But.refl mb _ w3).grown hg4 (Nat.le_refl _) (fun k e => .inr (by injection e with e; exact e.symm))
        exact ⟨_, rfl, hv3.but al3.map hb4, al3.put hg4 hm4 HND.out HKS.out HNO.out (fun z u hu => (HYS.out z u hu).but al.map (But.of b3)) hmy hy hv3, hbut⟩
end Go.Proofs.YtoklcbkphipmkaaDoor.Oc
