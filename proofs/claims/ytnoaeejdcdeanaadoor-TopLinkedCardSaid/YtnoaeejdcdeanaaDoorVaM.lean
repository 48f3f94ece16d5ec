/-
  FLAWS OF A SOURCE, IN PLAIN LEAN: what is found; a source without flaws, and links more.
-/
import Derived.Test.YtnoaeejdcdeanaaDoorSrc
import Derived.Test.YtnoaeejdcdeanaaDoorMom
namespace Go.Proofs.YtnoaeejdcdeanaaDoor.Va
open Go.Proofs.YtnoaeejdcdeanaaDoor.Sr
open Go.Proofs.YtnoaeejdcdeanaaDoor.Lk
open Go.Proofs.YtnoaeejdcdeanaaDoor.Mo (nomV nomE)
set_option linter.unusedVariables false
theorem mem_key {a : ByteArray} {l : List ByteArray} : key a ∈ l.map key ↔ a ∈ l :=
  ⟨fun h => by obtain ⟨b, hb, e⟩ := List.mem_map.1 h; rw [← key_inj e]; exact hb, fun h => List.mem_map_of_mem h⟩
/-- a flaw: why, and of which name -/
structure Fl where
  e : Int
  n : ByteArray
abbrev Fl.C (f : Fl) : Array Value := #[.int .i64 f.e, .string f.n]
abbrev Fl.nil : Fl := ⟨0, ByteArray.empty⟩
abbrev nm_ (l : List ByteArray) (k : Nat) : ByteArray := l.getD k ByteArray.empty
abbrev names (S : So) : List ByteArray := S.zs.map (·.nm) ++ S.ls.map (·.nm)
abbrev rnames (S : So) : List ByteArray := S.rs.map (·.nm)
/-- names that were there ahead, up to the k-th -/
def twK (l : List ByteArray) (k : Nat) : List Fl := (List.range k).flatMap fun i => if key (nm_ l i) ∈ (l.take i).map key then [⟨8, nm_ l i⟩] else []
theorem twK_succ (l : List ByteArray) (k : Nat) : twK l (k + 1) = twK l k ++ if key (nm_ l k) ∈ (l.take k).map key then [⟨8, nm_ l k⟩] else [] := by
  unfold twK; rw [List.range_succ, List.flatMap_append, List.flatMap_singleton]
def miE (R : List ByteArray) (e : Er) : List Fl := if e.kd = 2 then (if key e.ru ∈ R.map key then [] else [⟨3, e.ru⟩]) else []
def miZ (R : List ByteArray) (z : Zn) : List Fl := z.es.flatMap (miE R)
def miF (S : So) : List Fl := S.zs.flatMap (miZ (rnames S))
abbrev eV (e : Er) : Int := nomV e.uy e.um e.uk e.un e.ud e.us e.uc
abbrev eE (e : Er) : Int := nomE e.uy e.um e.uk e.un e.ud e.us e.uc
/-- the flaws of a zone's eras so far; when the last one that ended did; whether one did -/
def diS (nm : ByteArray) (st : List Fl × Int × Bool) (e : Er) : List Fl × Int × Bool :=
  if e.en = true then
    if eE e = 0 then (st.1 ++ (if st.2.2 = true ∧ eV e ≤ st.2.1 then [⟨10, nm⟩] else []), eV e, true)
    else (st.1 ++ [⟨10, nm⟩], st.2.1, st.2.2)
  else st
def diK (z : Zn) (k : Nat) : List Fl × Int × Bool := (z.es.take k).foldl (diS z.nm) ([], 0, false)
theorem diK_succ (z : Zn) (k : Nat) (h : k < z.es.length) : diK z (k + 1) = diS z.nm (diK z k) (er_ z.es k) := by
  unfold diK; rw [List.take_succ_eq_append_getElem h, List.foldl_append]
  show diS _ _ _ = _
  congr 1
  unfold er_; rw [List.getD_eq_getElem?_getD, List.getElem?_eq_getElem h]; rfl
def diZ (z : Zn) : List Fl := (diK z z.es.length).1
def diF (S : So) : List Fl := S.zs.flatMap diZ
noncomputable def asE (N : Net Key) (l : Li) : List Fl := if (lead N (key l.tg)).e = 0 then [] else [⟨(lead N (key l.tg)).e, l.nm⟩]
noncomputable def asF (S : So) : List Fl := S.ls.flatMap (asE (net S))
noncomputable def flaws (S : So) : List Fl := twK (names S) (names S).length ++ miF S ++ diF S ++ asF S
theorem fm_succ {α β : Type} (f : α → List β) (l : List α) (d : α) (k : Nat) (h : k < l.length) : (l.take (k + 1)).flatMap f = (l.take k).flatMap f ++ f (l.getD k d) := by
  rw [List.take_succ_eq_append_getElem h, List.flatMap_append, List.flatMap_singleton]
  congr 2
  rw [List.getD_eq_getElem?_getD, List.getElem?_eq_getElem h]; rfl
theorem twK_nil {l : List ByteArray} : twK l l.length = [] ↔ l.Nodup := by
  suffices h : ∀ k, k ≤ l.length → (twK l k = [] ↔ (l.take k).Nodup) by
    have := h l.length (Nat.le_refl _); rwa [List.take_length] at this
  intro k
  induction k with
  | zero => intro _; simp [twK]
  | succ k ih =>
    intro hk
    have hg : nm_ l k = l[k] := by rw [nm_, List.getD_eq_getElem?_getD, List.getElem?_eq_getElem (by omega)]; rfl
    rw [twK_succ, List.append_eq_nil_iff, ih (by omega), List.take_succ_eq_append_getElem (by omega), hg, List.nodup_append]
    by_cases hm : l[k] ∈ l.take k
    · rw [if_pos (mem_key.2 hm)]
      constructor
      · rintro ⟨_, h⟩; cases h
      · rintro ⟨_, _, h⟩; exact absurd rfl (h _ hm _ (by simp))
    · rw [if_neg (fun h => hm (mem_key.1 h))]
      constructor
      · rintro ⟨h, _⟩; exact ⟨h, by simp, fun a ha b hb e => by
          have : b = l[k] := by simpa using hb
          subst e; rw [this] at ha; exact hm ha⟩
      · rintro ⟨h, _⟩; exact ⟨h, rfl⟩
theorem nodup_keys {l : List ByteArray} (h : l.Nodup) : (l.map key).Nodup := by
  rw [List.nodup_iff_pairwise_ne] at h ⊢
  rw [List.pairwise_map]
  exact h.imp fun hne e => hne (key_inj e)
theorem once_nodup {α : Type} [DecidableEq α] {p : α → Bool} {l : List α} (h : l.Nodup) : onceP p l = l.filter p := by
  suffices hh : ∀ (m acc : List α), (∀ x ∈ acc, x ∉ m) → m.Nodup → m.foldl (fun out x => if x ∈ out then out else if p x then out ++ [x] else out) acc = acc ++ m.filter p by
    have := hh l [] (fun x hx => by cases hx) h
    rw [List.nil_append] at this; unfold onceP; exact this
  intro m
  induction m with
  | nil => intro acc _ _; simp
  | cons a m ih =>
    intro acc ha hn
    have hn' := List.nodup_cons.1 hn
    rw [List.foldl_cons, if_neg (fun e => ha a e (List.mem_cons_self ..))]
    by_cases hp : p a = true
    · rw [if_pos hp, ih (acc ++ [a]) (fun x hx => by
        rcases List.mem_append.1 hx with g | g
        · exact fun e => ha x g (List.mem_cons_of_mem _ e)
        · have : x = a := by simpa using g
          subst this; exact hn'.1) hn'.2, List.filter_cons, if_pos hp, List.append_assoc]; rfl
    · rw [if_neg hp, ih acc (fun x hx e => ha x hx (List.mem_cons_of_mem _ e)) hn'.2, List.filter_cons, if_neg hp]
/-- each link of a source without flaws leads to a zone, and so does each name -/
theorem as_nil {S : So} (h : asF S = []) {l : Li} (hl : l ∈ S.ls) : (lead (net S) (key l.tg)).e = 0 := by
  unfold asF at h
  have := (List.flatMap_eq_nil_iff.1 h) l hl
  unfold asE at this
  by_cases g : (lead (net S) (key l.tg)).e = 0
  · exact g
  · rw [if_neg g] at this; cases this
theorem ok_form {N : Net Key} {n : Key} (h : (lead N n).e = 0) : ∃ z : Int, lead N n = ⟨z, 0⟩ := by
  cases hl : lead N n with
  | mk p e => rw [hl] at h; have : e = 0 := h; subst this; exact ⟨p, rfl⟩
theorem name_leads {S : So} (h : asF S = []) {n : ByteArray} (hn : n ∈ names S) : ∃ z : Int, lead (net S) (key n) = ⟨z, 0⟩ := by
  rcases hz : zAt (net S) (key n) with _ | z
  · rcases List.mem_append.1 hn with g | g
    · obtain ⟨z, hzm, rfl⟩ := List.mem_map.1 g
      exact absurd (List.mem_map_of_mem (f := fun z : Zn => key z.nm) hzm) (fst_none.1 hz)
    · obtain ⟨l, hlm, rfl⟩ := List.mem_map.1 g
      have hk : key l.nm ∈ (net S).ls.map (·.2) := by rw [net_names]; exact List.mem_map_of_mem (f := fun l : Li => key l.nm) hlm
      obtain ⟨i, hi⟩ := fst_mem hk
      have hlt := fst_lt hi
      rw [List.length_map] at hlt
      have hlt' : i < S.ls.length := by simpa [net] using hlt
      have hx : (net S).ls[i]? = some (key S.ls[i].tg, key S.ls[i].nm) := by
        show (S.ls.map _)[i]? = _
        rw [List.getElem?_map, List.getElem?_eq_getElem hlt']; rfl
      have hn2 := nxt_of (net S) hi _ hx
      rw [lead_step (net S) hz hn2]
      exact ok_form (as_nil h (List.getElem_mem hlt'))
  · exact ⟨z, lead_z (net S) hz⟩
abbrev moreL (S : So) (l : List Li) : So := ⟨S.rs, S.zs, S.ls ++ l⟩
theorem names_more (S : So) (l : List Li) : names (moreL S l) = names S ++ l.map (·.nm) := by
  show S.zs.map _ ++ (S.ls ++ l).map _ = _
  rw [List.map_append, List.append_assoc]
theorem net_more (S : So) (l : List Li) : net (moreL S l) = (net S).more (l.map fun l => (key l.tg, key l.nm)) := by
  unfold net; simp [znames]
theorem not_zone {S : So} {f : ByteArray} (hf : f ∉ names S) : zAt (net S) (key f) = none := fst_none.2 fun h => by
  obtain ⟨z, hz, e⟩ := List.mem_map.1 (show key f ∈ znames S from h)
  exact hf (List.mem_append_left _ (by rw [← key_inj e]; exact List.mem_map_of_mem hz))
theorem not_link {S : So} {f : ByteArray} (hf : f ∉ names S) : lAt (net S) (key f) = none := fst_none.2 fun h => by
  rw [net_names] at h
  obtain ⟨z, hz, e⟩ := List.mem_map.1 (show key f ∈ lnames S from h)
  exact hf (List.mem_append_right _ (by rw [← key_inj e]; exact List.mem_map_of_mem hz))
theorem as_more {S : So} (h : asF S = []) (l : List Li) : asF (moreL S l) = l.flatMap (asE (net (moreL S l))) := by
  show (S.ls ++ l).flatMap _ = _
  rw [List.flatMap_append, List.flatMap_eq_nil_iff.2 (fun x hx => ?_), List.nil_append]
  obtain ⟨z, hz⟩ := ok_form (as_nil h hx)
  unfold asE
  rw [net_more, lead_more hz, if_pos rfl]
theorem flaws_nil {S : So} (h : flaws S = []) : (names S).Nodup ∧ miF S = [] ∧ diF S = [] ∧ asF S = [] := by
  unfold flaws at h
  simp only [List.append_eq_nil_iff] at h
  exact ⟨twK_nil.1 h.1.1.1, h.1.1.2, h.1.2, h.2⟩
/-- a link more, of a new name -/
theorem linked {S : So} {name fresh : ByteArray} (hw : flaws S = []) (hn : name ∈ names S) (hf : fresh ∉ names S) :
    flaws (moreL S [⟨name, fresh⟩]) = [] ∧ ∃ z : Int, lead (net S) (key name) = ⟨z, 0⟩ ∧ lead (net (moreL S [⟨name, fresh⟩])) (key fresh) = ⟨z, 0⟩ ∧
      ∀ x ∈ names S, ∃ y : Int, lead (net S) (key x) = ⟨y, 0⟩ ∧ lead (net (moreL S [⟨name, fresh⟩])) (key x) = ⟨y, 0⟩ ∧
        (onceP (fun k => decide (lead (net (moreL S [⟨name, fresh⟩])) k = lead (net (moreL S [⟨name, fresh⟩])) (key x))) ((names (moreL S [⟨name, fresh⟩])).map key)).length =
          (onceP (fun k => decide (lead (net S) k = lead (net S) (key x))) ((names S).map key)).length + if y = z then 1 else 0 := by
  obtain ⟨h1, h2, h3, h4⟩ := flaws_nil hw
  obtain ⟨z, hz⟩ := name_leads h4 hn
  have hnd : (names (moreL S [⟨name, fresh⟩])).Nodup := by
    rw [names_more, List.nodup_append]
    exact ⟨h1, by simp, fun a ha b hb e => by
      have : b = fresh := by simpa using hb
      subst this; subst e; exact hf ha⟩
  have hlf : lead (net (moreL S [⟨name, fresh⟩])) (key fresh) = ⟨z, 0⟩ := by
    rw [net_more]; exact lead_new hz (not_zone hf) (nxt_none _ (not_link hf))
  refine ⟨?_, z, hz, hlf, fun x hx => ?_⟩
  · unfold flaws
    have e1 : twK (names (moreL S [⟨name, fresh⟩])) (names (moreL S [⟨name, fresh⟩])).length = [] := twK_nil.2 hnd
    have e2 : miF (moreL S [⟨name, fresh⟩]) = [] := h2
    have e3 : diF (moreL S [⟨name, fresh⟩]) = [] := h3
    rw [e1, e2, e3, as_more h4, List.flatMap_singleton, asE, net_more, lead_more hz, if_pos rfl]; rfl
  · obtain ⟨y, hy⟩ := name_leads h4 hx
    refine ⟨y, hy, by rw [net_more]; exact lead_more hy, ?_⟩
    rw [once_nodup (nodup_keys hnd), once_nodup (nodup_keys h1), names_more, List.map_append, List.filter_append, List.length_append]
    have e1 : ((names S).map key).filter (fun k => decide (lead (net (moreL S [⟨name, fresh⟩])) k = lead (net (moreL S [⟨name, fresh⟩])) (key x))) = ((names S).map key).filter (fun k => decide (lead (net S) k = lead (net S) (key x))) := by
      refine List.filter_congr fun k hk => ?_
      obtain ⟨n, hn', rfl⟩ := List.mem_map.1 hk
      obtain ⟨q, hq⟩ := name_leads h4 hn'
      rw [net_more, lead_more hy, lead_more hq, hy, hq]
    rw [e1]
    congr 1
    show (List.filter _ [key fresh]).length = _
    rw [List.filter_cons, hlf, show lead (net (moreL S [⟨name, fresh⟩])) (key x) = ⟨y, 0⟩ by rw [net_more]; exact lead_more hy]
    by_cases g : y = z
    · subst g; simp
    · rw [if_neg g]
      have : ¬ (⟨z, 0⟩ : Lk.Fd) = ⟨y, 0⟩ := fun e => g (by injection e with e _; exact e.symm)
      simp [this]
/-- two links more, of new names, that lead to one another -/
theorem round {S : So} {a b : ByteArray} (hw : flaws S = []) (ha : a ∉ names S) (hb : b ∉ names S) (hab : a ≠ b) :
    flaws (moreL S [⟨a, b⟩, ⟨b, a⟩]) = [⟨9, b⟩, ⟨9, a⟩] ∧ lead (net (moreL S [⟨a, b⟩, ⟨b, a⟩])) (key a) = ⟨0, 9⟩ ∧ lead (net (moreL S [⟨a, b⟩, ⟨b, a⟩])) (key b) = ⟨0, 9⟩ ∧
      ∀ k, walk (net (moreL S [⟨a, b⟩, ⟨b, a⟩])) (k + 3) [] (key a) = some [key a, key b] := by
  obtain ⟨h1, h2, h3, h4⟩ := flaws_nil hw
  have hkab : key a ≠ key b := key_ne hab
  generalize hT : moreL S [⟨a, b⟩, ⟨b, a⟩] = T
  have hN : net T = (net S).more [(key a, key b), (key b, key a)] := by rw [← hT, net_more]; rfl
  have za : zAt (net T) (key a) = none := by rw [hN]; exact not_zone ha
  have zb : zAt (net T) (key b) = none := by rw [hN]; exact not_zone hb
  have lb : lAt (net T) (key b) = some S.ls.length := by
    rw [hN]
    show fst_ (((net S).ls ++ _).map _) _ = _
    rw [List.map_append, fst_append, show fst_ ((net S).ls.map (·.2)) (key b) = none from not_link hb]
    simp [fst_, net]
  have la : lAt (net T) (key a) = some (S.ls.length + 1) := by
    rw [hN]
    show fst_ (((net S).ls ++ _).map _) _ = _
    rw [List.map_append, fst_append, show fst_ ((net S).ls.map (·.2)) (key a) = none from not_link ha]
    simp [fst_, net, Ne.symm hkab]; omega
  have nb : nxt (net T) (key b) = some (key a) := nxt_of _ lb (key a, key b) (by
    rw [hN]; show ((net S).ls ++ _)[_]? = _
    rw [List.getElem?_append_right (by simp [net])]; simp [net])
  have na : nxt (net T) (key a) = some (key b) := nxt_of _ la (key b, key a) (by
    rw [hN]; show ((net S).ls ++ _)[_]? = _
    rw [List.getElem?_append_right (by simp [net])]; simp [net])
  have hl : ∀ k, ends (net T) k (key a) = none ∧ ends (net T) k (key b) = none := by
    intro k
    induction k with
    | zero => exact ⟨rfl, rfl⟩
    | succ k ih => exact ⟨by rw [ends_step _ za na]; exact ih.2, by rw [ends_step _ zb nb]; exact ih.1⟩
  have l9a : lead (net T) (key a) = ⟨0, 9⟩ := lead_no _ fun k => (hl k).1
  have l9b : lead (net T) (key b) = ⟨0, 9⟩ := lead_no _ fun k => (hl k).2
  refine ⟨?_, l9a, l9b, ?_⟩
  · unfold flaws
    have hnd : (names T).Nodup := by
      rw [← hT, names_more, List.nodup_append]
      refine ⟨h1, ?_, fun x hx y hy e => ?_⟩
      · show [b, a].Nodup; simp [Ne.symm hab]
      · have : y = b ∨ y = a := by simpa using hy
        subst e
        rcases this with rfl | rfl
        · exact hb hx
        · exact ha hx
    have e1 : twK (names T) (names T).length = [] := twK_nil.2 hnd
    have e2 : miF T = [] := by rw [← hT]; exact h2
    have e3 : diF T = [] := by rw [← hT]; exact h3
    have e4 : asF T = [⟨9, b⟩, ⟨9, a⟩] := by
      have := as_more h4 [⟨a, b⟩, ⟨b, a⟩]
      rw [hT] at this
      rw [this]
      simp [asE, l9a, l9b]
    rw [e1, e2, e3, e4]; rfl
  · intro k
    show walk _ ((k + 2) + 1) _ _ = _
    rw [walk, if_neg (by simp), za]
    simp only [na]
    show walk _ ((k + 1) + 1) _ _ = _
    rw [walk, if_neg (by simpa using Ne.symm hkab), zb]
    simp only [nb]
    rw [walk, if_pos (by simp)]; rfl
end Go.Proofs.YtnoaeejdcdeanaaDoor.Va
