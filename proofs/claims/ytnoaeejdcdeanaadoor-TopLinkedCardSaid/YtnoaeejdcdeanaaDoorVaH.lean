/-
  LINKS THAT LEAD NOWHERE; ALL FLAWS OF A SOURCE: walked.
-/
import Derived.Test.YtnoaeejdcdeanaaDoorVaG
import Derived.Deep.RegionHeld3
namespace Go.Proofs.YtnoaeejdcdeanaaDoor.Va
open Go.ChangeShapes Go.WideShapes Go.ChangeAt Go.RowKit Go.Shelf
open Go.Proofs.YtnoaeejdcdeanaaDoor
open Go.Proofs.YtnoaeejdcdeanaaDoor.Wd
open Go.Proofs.YtnoaeejdcdeanaaDoor.Sr
open Go.Proofs.YtnoaeejdcdeanaaDoor.Sl
set_option linter.unusedVariables false
set_option linter.unusedSimpArgs false
open Go.Proofs.YtnoaeejdcdeanaaDoor.Civ (Tab)
open Go.Proofs.YtnoaeejdcdeanaaDoor.Ab (Tb)
open Go.Proofs.YtnoaeejdcdeanaaDoor.Lk (lead fst_of fst_none zAt lAt nxt_of lead_step lead_z fst_mem Txs Chain_ keys Net)
open Go.Proofs.YtnoaeejdcdeanaaDoor.Mp (Smap mput mput_same mput_other wpList_look_no wpList_look_yes wpList_mput)
theorem zero_ern (w : World) : (zeroValue 35).run Tryd.prog w = .ok (.int .i64 0) w := by kernel_rfl
/-- what is known is right; what is known at least -/
structure Kn (N : Net Key) (m : Key → Option Value) (K : List Key) : Prop where
  r : ∀ s u, m s = some u → u = .int .i64 (lead N s).e
  a : ∀ s ∈ K, ∃ u, m s = some u
theorem Kn.nil {N : Net Key} : Kn N (fun _ => none) [] := ⟨fun _ _ h => (by cases h), fun _ h => (by cases h)⟩
theorem Kn.put {N : Net Key} {m : Key → Option Value} {K : List Key} (h : Kn N m K) (b : Key) {e : Int} (he : e = (lead N b).e) : Kn N (mput m b (.int .i64 e)) (K ++ [b]) := by
  refine ⟨fun s u hs => ?_, fun s hs => ?_⟩
  · by_cases q : s = b
    · subst q; rw [mput_same] at hs; injection hs with hs; rw [← hs, he]
    · rw [mput_other q] at hs; exact h.r s u hs
  · by_cases q : s = b
    · subst q; exact ⟨_, mput_same ..⟩
    · rw [mput_other q]; exact h.a s (by simpa [q] using hs)
theorem Kn.less {N : Net Key} {m : Key → Option Value} {K K' : List Key} (h : Kn N m K) (hk : ∀ s ∈ K', s ∈ K) : Kn N m K' := ⟨h.r, fun s hs => h.a s (hk s hs)⟩
theorem Kn.old {N : Net Key} {m : Key → Option Value} {K : List Key} (h : Kn N m K) {b : Key} {u : Value} (hb : m b = some u) : Kn N m (K ++ [b]) := ⟨h.r, fun s hs => by
  rcases List.mem_append.1 hs with g | g
  · exact h.a s g
  · rw [List.mem_singleton.1 g]; exact ⟨u, hb⟩⟩
theorem link_lead {S : So} {k : Nat} {l : Li} (hk : k < S.ls.length) (hl : S.ls.getD k Li.nil = l) (hz : key l.nm ∉ znames S) (hn : key l.nm ∉ (lnames S).take k) : lead (net S) (key l.nm) = lead (net S) (key l.tg) := by
  have hkl := getD_at Li.nil hk
  rw [hl] at hkl
  have h1 : lAt (net S) (key l.nm) = some k := by
    show Lk.fst_ ((net S).ls.map (·.2)) _ = _
    rw [net_names]
    refine fst_of ?_ fun j hj e => hn ?_
    · unfold lnames; rw [List.getElem?_map, hkl]; rfl
    · have hjl : j < (lnames S).length := by unfold lnames; rw [List.length_map]; omega
      rw [List.getElem?_eq_getElem hjl] at e
      rw [← Option.some.inj e]
      exact List.mem_take_iff_getElem.2 ⟨j, by omega, rfl⟩
  have h2 := nxt_of (net S) h1 (key l.tg, key l.nm) (by show (S.ls.map _)[k]? = _; rw [List.getElem?_map, hkl]; rfl)
  exact lead_step _ (fst_none.2 hz) h2
theorem lname_at {S : So} {k : Nat} {l : Li} (hk : k < S.ls.length) (hl : S.ls.getD k Li.nil = l) : (lnames S).take (k + 1) = (lnames S).take k ++ [key l.nm] := by
  subst hl; unfold lnames; rw [← List.map_take, ← List.map_take, getD_take Li.nil hk, List.map_append]; rfl
theorem zname_at {S : So} {k : Nat} {z : Zn} (hk : k < S.zs.length) (hl : S.zs.getD k Zn.nil = z) : (znames S).take (k + 1) = (znames S).take k ++ [key z.nm] := by
  subst hl; unfold znames; rw [← List.map_take, ← List.map_take, getD_take Zn.nil hk, List.map_append]; rfl
theorem zone_lead {S : So} {k : Nat} {z : Zn} (hk : k < S.zs.length) (hl : S.zs.getD k Zn.nil = z) : (0 : Int) = (lead (net S) (key z.nm)).e := by
  subst hl
  obtain ⟨i, hi⟩ := fst_mem (l := znames S) (s := key (S.zs.getD k Zn.nil).nm) (List.mem_map_of_mem (f := fun z : Zn => key z.nm) (getD_mem Zn.nil hk))
  rw [lead_z (net S) (z := i) hi]
theorem txs_map {w w' : World} {B n k mb c : Nat} {A0 : Option Addr} {l : List ByteArray} {m : Key → Option Value} (h : Txs w B A0 n l) (hm : Smap w Tryd.prog k mb c m) (hg : w.grownBy w' (some mb)) (hB : B ≤ w.heap.size) : Txs w' B A0 n l := by
  obtain ⟨D, ⟨es, clock, h1, _⟩, _⟩ := hm
  refine ⟨h.len, ⟨h.r.1, fun hn => ?_⟩, h.p⟩
  obtain ⟨ad, hA, hb, hc⟩ := h.r.2 hn
  refine ⟨ad, hA, hb, fun j u hu => ?_⟩
  have := hc j u hu
  by_cases e : ad.block = mb
  · exfalso
    have hbk := block_of_add ad j
    simp [World.cell?, hbk, e, h1] at this
  · rw [← this]
    exact World.cell?_of_block (hg.block _ (by rw [block_of_add]; omega) (fun q => e (by rw [block_of_add] at q; exact Option.some.inj q)))
set_option maxRecDepth 100000 in
set_option maxHeartbeats 25600000 in
theorem astray_any (base p : Nat) (h : Hd) (S : So) (fl : List Fl) (v : Value) (w : World) (x : Fz base w p h fl v) (hS : SoR w base h S) (hz : h.zn ≤ 12) (hln : h.ln ≤ 30) (hf : fl.length ≤ 20000) :
    Calls Tryd.prog 18 #[.pointer (some ⟨p, 0, none⟩)] w (FzP base w p h (fl ++ asF S)) := by
  have hbw : base ≤ w.heap.size := Nat.le_trans x.ge (Nat.le_of_lt x.f.lt)
  have b0 := (Below.refl base w).alloc hbw (.map #[] 0)
  have x0 := x.below ((Below.refl _ w).alloc (Nat.le_refl _) (.map #[] 0))
  have m0 := Smap.made w Tryd.prog 9
  obtain ⟨rA, rn, rc, zA, zn, zc, lA, ln, lc⟩ := h
  dsimp only at hz hln
  have c0 : (w.alloc (.map #[] 0)).cell? ⟨p, 1, none⟩ = some (.slice zA zn zc) := x0.f.cell 1
  have hmk := @run_makeMap Tryd.prog
  go_enter Tryd.func18, Tryd.ntmps18
  go_upto_region 2 with fail
  clear c0
  generalize w.alloc (.map #[] 0) = W at *
  generalize w.heap.size = mb at *
  clear x hmk
  go_loopw [4, 20] (fun _ i wr => ∃ (k : Nat) (m : Key → Option Value), i = .int .i64 (k : Int) ∧ k ≤ zn ∧ Fz base wr p ⟨rA, rn, rc, zA, zn, zc, lA, ln, lc⟩ fl v ∧ Smap wr Tryd.prog 9 mb k m ∧ Kn (net S) m ((znames S).take k) ∧ Below base w wr) (fun _ i _ => zn - (intOf i).toNat)
  case atStart => exact ⟨0, _, rfl, Nat.zero_le _, x0, m0, Kn.nil, b0⟩
  case round =>
    clear x0 m0 b0
    obtain ⟨k, m, rfl, hk, x, hm, hd, b⟩ := hrel
    by_cases hlt : k < zn
    · have hltI : (k : Int) < (zn : Int) := by omega
      obtain ⟨ad, eA, hrow⟩ := (hS.z.below b).row (fun _ => rfl) Zn.nil hlt
      dsimp only at eA
      subst eA
      have hlr : k < S.zs.length := by rw [hS.z.len]; exact hlt
      have hbz := (hS.zb _ (getD_mem Zn.nil hlr)).1
      obtain ⟨z, hr1⟩ : ∃ r, S.zs.getD k Zn.nil = r := ⟨_, rfl⟩
      rw [hr1] at hrow hbz
      have HK := Lib.hid (zname_at hlr hr1)
      have HD2 := Lib.hid (hd.put (key z.nm) (zone_lead hlr hr1)); clear hd hr1
      have xa := x.below ((Below.refl _ wr).alloc (Nat.le_refl _) (.cells #[.string z.nm, .slice z.A z.n z.c] 59)); have ya := Blk.new wr 59 #[.string z.nm, .slice z.A z.n z.c]; have ma := hm.alloc (.cells #[.string z.nm, .slice z.A z.n z.c] 59); have ba := b.alloc (Nat.le_trans x.ge (Nat.le_of_lt x.f.lt)) (.cells #[.string z.nm, .slice z.A z.n z.c] 59)
      go_upto_region 4 with (first | (refine wpList_at_g rfl 59 _ rfl base _ #[.string z.nm, .slice z.A z.n z.c] rfl _ hrow Tryd.underlying59 rfl (by kernel_rfl) ?_) | (refine wpList_store_new rfl 59 _ _ rfl rfl wr.heap.size #[.string z.nm, .slice z.A z.n z.c] rfl rfl _ #[.string ⟨#[]⟩, .slice none 0 0] wr rfl rfl rfl (by kernel_rfl) (by kernel_rfl) ?_))
      generalize wr.alloc (.cells #[.string z.nm, .slice z.A z.n z.c] 59) = V at *
      obtain ⟨q, hq⟩ : ∃ q, wr.heap.size = q := ⟨_, rfl⟩
      simp only [hq] at ya ⊢
      clear hq hrow x hm b
      have c1 : V.cell? ⟨q, 0, none⟩ = some (.string z.nm) := ya.cell 0
      go_wp2_with (at_mapUpdate; refine wpList_mput _ rfl _ _ _ 85 rfl 9 35 Tryd.underlying9 Tryd.underlying85 mb k _ rfl ma (by unfold maxLen; omega) z.nm rfl hbz _ rfl ?_; intro W2 hm2 hg2)
      have x2 := xa.grown hg2 (Ne.symm (ma.cells_ne xa.f)) (Lk.own_map_ne xa.o ma).symm
      have b2 := ba.grown hg2 (Nat.le_trans xa.ge (Nat.le_of_lt xa.f.lt)) (fun q e => by cases e; exact hbw)
      clear xa ma hg2 ba c1 ya
      go_roundw
      case rel => exact ⟨k + 1, _, by go_num, by omega, x2, hm2, by rw [HK.out]; exact HD2.out, b2⟩
      case measure => simp [intOf]; omega
    · obtain rfl : k = zn := by omega
      have hltI : ¬ (k : Int) < (k : Int) := by omega
      rw [List.take_of_length_le (by unfold znames; rw [List.length_map]; exact Nat.le_of_eq hS.z.len)] at hd
      have hd0 : Kn (net S) m (znames S ++ (lnames S).take 0) := by simpa using hd
      clear hd
      have c1 : wr.cell? ⟨p, 2, none⟩ = some (.slice lA ln lc) := x.f.cell 2
      go_upto_region 7 with fail
      clear c1
      go_loopw [6, 7, 8, 10, 11, 12, 34, 67, 68, 69] (fun _ _ _ _ _ _ i _ _ _ wr => ∃ (j : Nat) (v : Value) (m : Key → Option Value) (cn : Nat), i = .int .i64 (j : Int) ∧ j ≤ ln ∧ Fz base wr p ⟨rA, rn, rc, zA, k, zc, lA, ln, lc⟩ (fl ++ (S.ls.take j).flatMap (asE (net S))) v ∧ Smap wr Tryd.prog 9 mb cn m ∧ cn ≤ 100 + 1000 * j ∧ Kn (net S) m (znames S ++ (lnames S).take j) ∧ Below base w wr) (fun _ _ _ _ _ _ i _ _ _ _ => ln - (intOf i).toNat)
      case atStart => exact ⟨0, v, m, k, rfl, Nat.zero_le _, by simpa using x, hm, by omega, hd0, b⟩
      case round =>
        clear x hm b hd0 m
        obtain ⟨j, v, m, cn, rfl, hj, x, hm, hcn, hd, b⟩ := hrel
        by_cases hlt : j < ln
        · have hltI : (j : Int) < (ln : Int) := by omega
          obtain ⟨ad, eA, hrow⟩ := (hS.l.below b).row (fun _ => rfl) Li.nil hlt
          dsimp only at eA
          subst eA
          have hll : j < S.ls.length := by rw [hS.l.len]; exact hlt
          have hbz := hS.lb _ (getD_mem Li.nil hll)
          obtain ⟨l, hl1⟩ : ∃ r, S.ls.getD j Li.nil = r := ⟨_, rfl⟩
          rw [hl1] at hrow hbz
          obtain ⟨hb1, hb2⟩ := hbz
          have HLN := Lib.hid (lname_at hll hl1)
          have HF := Lib.hid (fm_at (f := asE (net S)) hll hl1)
          have HLL := Lib.hid (link_lead hll hl1)
          clear hl1
          have hfl : (fl ++ (S.ls.take j).flatMap (asE (net S))).length ≤ 100000 := by
            have := flat_le (f := asE (net S)) (c := 1) (S.ls.take j) (fun a _ => by unfold asE; split <;> simp)
            have h3 : (S.ls.take j).length ≤ 40 := by rw [List.length_take]; omega
            rw [List.length_append]; omega
          obtain ⟨ev, hev⟩ : ∃ e, e = (lead (net S) (key l.tg)).e := ⟨_, rfl⟩
          have HEV := Lib.hid hev
          have HAS := Lib.hid (show asE (net S) l = if ev = 0 then [] else [⟨ev, l.nm⟩] by unfold asE; rw [← hev])
          clear hev
          have xa := x.below ((Below.refl _ wr).alloc (Nat.le_refl _) (.cells #[.string l.tg, .string l.nm] 32)); have ya := Blk.new wr 32 #[.string l.tg, .string l.nm]; have ma := hm.alloc (.cells #[.string l.tg, .string l.nm] 32); have ba := b.alloc (Nat.le_trans x.ge (Nat.le_of_lt x.f.lt)) (.cells #[.string l.tg, .string l.nm] 32)
          go_upto_region 9 with (first | (refine wpList_at_g rfl 32 _ rfl base _ #[.string l.tg, .string l.nm] rfl _ hrow Tryd.underlying32 rfl (by kernel_rfl) ?_) | (refine wpList_store_new rfl 32 _ _ rfl rfl wr.heap.size #[.string l.tg, .string l.nm] rfl rfl _ #[.string ⟨#[]⟩, .string ⟨#[]⟩] wr rfl rfl rfl (by kernel_rfl) (by kernel_rfl) ?_))
          generalize wr.alloc (.cells #[.string l.tg, .string l.nm] 32) = V at *
          obtain ⟨q, hq⟩ : ∃ q, wr.heap.size = q := ⟨_, rfl⟩
          simp only [hq] at ya ⊢
          clear hq hrow x hm b
          have c0 : V.cell? ⟨q, 0, none⟩ = some (.string l.tg) := ya.cell 0
          have HKn := Lib.hid hd; clear hd
          cases hmt : m (key l.tg) with
          | none =>
            go_upto_region 11 with (at_lookup; refine wpList_look_no _ rfl _ _ 85 rfl 9 35 Tryd.underlying9 Tryd.underlying85 _ (zero_ern _) mb cn m rfl ma l.tg rfl hb1 hmt ?_)
            clear hmt c0
            have s11 : V.drew.cell? ⟨p, 0, none⟩ = some (.slice rA rn rc) ∧ V.drew.cell? ⟨p, 1, none⟩ = some (.slice zA k zc) ∧ V.drew.cell? ⟨p, 2, none⟩ = some (.slice (some ad) ln lc) ∧ V.drew.cell? ⟨q, 0, none⟩ = some (.string l.tg) := ⟨xa.f.cell 0, xa.f.cell 1, xa.f.cell 2, ya.cell 0⟩
            have hzc := Lk.zone_any ⟨rA, rn, rc, zA, k, zc, some ad, ln, lc⟩ S l.tg V.drew ((hS.below ba.drew).more (Nat.le_trans xa.ge (Nat.le_of_lt xa.f.lt))) hb1 (by show k ≤ _; omega) (by show ln ≤ _; omega)
            rw [← HEV.out] at hzc
            generalize (lead (net S) (key l.tg)).p = zp at hzc
            refine wp_region_held_drew (S := fun w' => w'.cell? ⟨p, 0, none⟩ = some (.slice rA rn rc) ∧ w'.cell? ⟨p, 1, none⟩ = some (.slice zA k zc) ∧ w'.cell? ⟨p, 2, none⟩ = some (.slice (some ad) ln lc) ∧ w'.cell? ⟨q, 0, none⟩ = some (.string l.tg)) (by kernel_rfl) (s11) (fun hHeld => ?_)
            refine wpAnyH_take (i := 0) (oi := { dst := some 48, op := Op.move (Operand.tmp 0), type := 81, pos := "valid.go:84", after := #[], guard := none }) (v := ?_) rfl (by kernel_rfl) (by kernel_rfl) (by kernel_rfl) (fun _ _ _ h => h) (Or.inl ⟨by rfl, ?_⟩) hHeld ?_
            rotate_left
            · intro w hSw
              try dsimp only at hSw
              go_simp
              try with_reducible rfl
            try simp only [Act.put, List.setIfInBounds_toArray, List.set_cons_zero, List.set_cons_succ]
            refine wpAnyH_take (i := 1) (oi := { dst := some 49, op := Op.nilCheck (Operand.tmp 48), type := 0, pos := "valid.go:84", after := #[{ on := 0, ground := Ground.data }], guard := none }) (v := ?_) rfl (by kernel_rfl) (by kernel_rfl) (by kernel_rfl) (fun _ _ _ h => h) (Or.inl ⟨by rfl, ?_⟩) hHeld ?_
            rotate_left
            · intro w hSw
              try dsimp only at hSw
              go_simp
              try with_reducible rfl
            try simp only [Act.put, List.setIfInBounds_toArray, List.set_cons_zero, List.set_cons_succ]
            refine wpAnyH_take (i := 2) (oi := { dst := some 50, op := Op.fieldAddr 64 (Operand.tmp 49) 0, type := 0, pos := "valid.go:84", after := #[{ on := 1, ground := Ground.data }], guard := none }) (v := ?_) rfl (by kernel_rfl) (by kernel_rfl) (by kernel_rfl) (fun _ _ _ h => h) (Or.inl ⟨by rfl, ?_⟩) hHeld ?_
            rotate_left
            · intro w hSw
              try dsimp only at hSw
              go_simp
              try with_reducible rfl
            try simp only [Act.put, List.setIfInBounds_toArray, List.set_cons_zero, List.set_cons_succ]
            refine wpAnyH_take (i := 3) (oi := { dst := some 51, op := Op.load 26 (Operand.tmp 50), type := 26, pos := "valid.go:84", after := #[{ on := 2, ground := Ground.data }], guard := none }) (v := ?_) rfl (by kernel_rfl) (by kernel_rfl) (by kernel_rfl) (fun _ _ _ h => h) (Or.inl ⟨by rfl, ?_⟩) hHeld ?_
            rotate_left
            · intro w hSw
              try dsimp only at hSw
              go_simp
              try with_reducible rfl
            try simp only [Act.put, List.setIfInBounds_toArray, List.set_cons_zero, List.set_cons_succ]
            refine wpAnyH_take (i := 4) (oi := { dst := some 52, op := Op.fieldAddr 32 (Operand.tmp 6) 0, type := 0, pos := "valid.go:84", after := #[], guard := none }) (v := ?_) rfl (by kernel_rfl) (by kernel_rfl) (by kernel_rfl) (fun _ _ _ h => h) (Or.inl ⟨by rfl, ?_⟩) hHeld ?_
            rotate_left
            · intro w hSw
              try dsimp only at hSw
              go_simp
              try with_reducible rfl
            try simp only [Act.put, List.setIfInBounds_toArray, List.set_cons_zero, List.set_cons_succ]
            refine wpAnyH_take (i := 5) (oi := { dst := some 53, op := Op.load 9 (Operand.tmp 52), type := 9, pos := "valid.go:84", after := #[{ on := 4, ground := Ground.data }], guard := none }) (v := ?_) rfl (by kernel_rfl) (by kernel_rfl) (by kernel_rfl) (fun _ _ _ h => h) (Or.inl ⟨by rfl, ?_⟩) hHeld ?_
            rotate_left
            · intro w hSw
              try dsimp only at hSw
              go_simp
              try with_reducible rfl
            try simp only [Act.put, List.setIfInBounds_toArray, List.set_cons_zero, List.set_cons_succ]
            refine wpAnyH_ready (rs := [6]) (by kernel_rfl) (by simp) ?_
            refine AllReadyH.cons (o := { dst := some 54, op := Op.call { callee := Callee.value (Operand.func 10), args := #[Operand.tmp 51, Operand.tmp 53], argTypes := #[26, 9] }, type := 36, pos := "valid.go:84", after := #[{ on := 3, ground := Ground.data }, { on := 5, ground := Ground.data }], guard := none }) rfl (fun K hK => ?_) (AllReadyH.nil)
            go_simp
            refine hzc.mono ?_; rintro e0 V2 ⟨rfl, hb⟩
            try go_wp2_with fail
            have hbk : Below V.heap.size V V2 := (Below.refl _ V).drew.trans hb
            refine hK.out _ _ (⟨(hb.cell (p := ⟨p, 0, none⟩) xa.f.lt).trans hHeld.1, (hb.cell (p := ⟨p, 1, none⟩) xa.f.lt).trans hHeld.2.1, (hb.cell (p := ⟨p, 2, none⟩) xa.f.lt).trans hHeld.2.2.1, (hb.cell (p := ⟨q, 0, none⟩) ya.lt).trans hHeld.2.2.2⟩) (fun hHeld2 => ?_)
            clear hK K hHeld; have hHeld := hHeld2; clear hHeld2
            try simp only [Act.put, List.setIfInBounds_toArray, List.set_cons_zero, List.set_cons_succ]
            refine wpAnyH_take (i := 7) (oi := { dst := some 47, op := Op.move (Operand.tmp 54), type := 36, pos := "valid.go:84", after := #[{ on := 6, ground := Ground.data }], guard := none }) (v := ?_) rfl (by kernel_rfl) (by kernel_rfl) (by kernel_rfl) (fun _ _ _ h => h) (Or.inl ⟨by rfl, ?_⟩) hHeld ?_
            rotate_left
            · intro w hSw
              try dsimp only at hSw
              go_simp
              try with_reducible rfl
            try simp only [Act.put, List.setIfInBounds_toArray, List.set_cons_zero, List.set_cons_succ]
            refine wpAnyH_take (i := 8) (oi := { dst := some 55, op := Op.extract (Operand.tmp 47) 0, type := 3, pos := "valid.go:84", after := #[{ on := 7, ground := Ground.data }], guard := none }) (v := ?_) rfl (by kernel_rfl) (by kernel_rfl) (by kernel_rfl) (fun _ _ _ h => h) (Or.inl ⟨by rfl, ?_⟩) hHeld ?_
            rotate_left
            · intro w hSw
              try dsimp only at hSw
              go_simp
              try with_reducible rfl
            try simp only [Act.put, List.setIfInBounds_toArray, List.set_cons_zero, List.set_cons_succ]
            refine wpAnyH_take (i := 9) (oi := { dst := some 56, op := Op.extract (Operand.tmp 47) 1, type := 35, pos := "valid.go:84", after := #[{ on := 7, ground := Ground.data }], guard := none }) (v := ?_) rfl (by kernel_rfl) (by kernel_rfl) (by kernel_rfl) (fun _ _ _ h => h) (Or.inl ⟨by rfl, ?_⟩) hHeld ?_
            rotate_left
            · intro w hSw
              try dsimp only at hSw
              go_simp
              try with_reducible rfl
            try simp only [Act.put, List.setIfInBounds_toArray, List.set_cons_zero, List.set_cons_succ]
            refine wpAnyH_take (i := 10) (oi := { dst := some 7, op := Op.assign (Operand.tmp 56), type := 35, pos := "valid.go:84", after := #[{ on := 9, ground := Ground.data }, { on := 6, ground := Ground.chain }, { on := 0, ground := Ground.phase }, { on := 1, ground := Ground.phase }, { on := 2, ground := Ground.phase }, { on := 3, ground := Ground.phase }, { on := 4, ground := Ground.phase }, { on := 5, ground := Ground.phase }, { on := 6, ground := Ground.phase }, { on := 7, ground := Ground.phase }, { on := 8, ground := Ground.phase }, { on := 9, ground := Ground.phase }], guard := none }) (v := ?_) rfl (by kernel_rfl) (by kernel_rfl) (by kernel_rfl) (fun _ _ _ h => h) (Or.inl ⟨by rfl, ?_⟩) hHeld ?_
            rotate_left
            · intro w hSw
              try dsimp only at hSw
              go_simp
              try with_reducible rfl
            try simp only [Act.put, List.setIfInBounds_toArray, List.set_cons_zero, List.set_cons_succ]
            refine wpAnyH_done (by kernel_rfl) ?_ _
            clear hHeld
            have x2 := xa.below hbk; have y2 := ya.below hbk ya.lt; have m2 := ma.below hbk ma.lt; have b2 := ba.trans (hbk.mono (Nat.le_trans xa.ge (Nat.le_of_lt xa.f.lt)))
            clear s11 hzc hb hbk xa ya ma ba
            have c0 : V2.cell? ⟨q, 0, none⟩ = some (.string l.tg) := y2.cell 0
            have HK3 := Lib.hid (HKn.out.put (key l.tg) HEV.out)
            go_upto_region 13 with (at_mapUpdate; refine wpList_mput _ rfl _ _ _ 85 rfl 9 35 Tryd.underlying9 Tryd.underlying85 mb cn m rfl m2 (by unfold maxLen; omega) l.tg rfl hb1 (.int .i64 ev) rfl ?_; intro V3 m3 g3)
            have x3 := x2.grown g3 (Ne.symm (m2.cells_ne x2.f)) (Lk.own_map_ne x2.o m2).symm
            have y3 : Blk V3 q 32 #[.string l.tg, .string l.nm] := y2.grown g3 (fun e => (m2.cells_ne y2) (Option.some.inj e).symm)
            have b3 := b2.grown g3 (Nat.le_trans x2.ge (Nat.le_of_lt x2.f.lt)) (fun q e => by cases e; exact hbw)
            clear g3 x2 y2 m2 b2 c0
            have s13 : V3.drew.cell? ⟨p, 0, none⟩ = some (.slice rA rn rc) ∧ V3.drew.cell? ⟨p, 1, none⟩ = some (.slice zA k zc) ∧ V3.drew.cell? ⟨p, 2, none⟩ = some (.slice (some ad) ln lc) ∧ V3.drew.cell? ⟨q, 0, none⟩ = some (.string l.tg) := ⟨x3.f.cell 0, x3.f.cell 1, x3.f.cell 2, y3.cell 0⟩
            have hcc := Lk.chain_any ⟨rA, rn, rc, zA, k, zc, some ad, ln, lc⟩ S l.tg V3.drew ((hS.below b3.drew).more (Nat.le_trans x3.ge (Nat.le_of_lt x3.f.lt))) hb1 (by show k ≤ _; omega) (by show ln ≤ _; omega)
            refine wp_region_held_drew (S := fun w' => w'.cell? ⟨p, 0, none⟩ = some (.slice rA rn rc) ∧ w'.cell? ⟨p, 1, none⟩ = some (.slice zA k zc) ∧ w'.cell? ⟨p, 2, none⟩ = some (.slice (some ad) ln lc) ∧ w'.cell? ⟨q, 0, none⟩ = some (.string l.tg)) (by kernel_rfl) (s13) (fun hHeld => ?_)
            refine wpAnyH_take (i := 0) (oi := { dst := some 61, op := Op.move (Operand.tmp 0), type := 81, pos := "valid.go:86", after := #[], guard := none }) (v := ?_) rfl (by kernel_rfl) (by kernel_rfl) (by kernel_rfl) (fun _ _ _ h => h) (Or.inl ⟨by rfl, ?_⟩) hHeld ?_
            rotate_left
            · intro w hSw
              try dsimp only at hSw
              go_simp
              try with_reducible rfl
            try simp only [Act.put, List.setIfInBounds_toArray, List.set_cons_zero, List.set_cons_succ]
            refine wpAnyH_take (i := 1) (oi := { dst := some 62, op := Op.nilCheck (Operand.tmp 61), type := 0, pos := "valid.go:86", after := #[{ on := 0, ground := Ground.data }], guard := none }) (v := ?_) rfl (by kernel_rfl) (by kernel_rfl) (by kernel_rfl) (fun _ _ _ h => h) (Or.inl ⟨by rfl, ?_⟩) hHeld ?_
            rotate_left
            · intro w hSw
              try dsimp only at hSw
              go_simp
              try with_reducible rfl
            try simp only [Act.put, List.setIfInBounds_toArray, List.set_cons_zero, List.set_cons_succ]
            refine wpAnyH_take (i := 2) (oi := { dst := some 63, op := Op.fieldAddr 64 (Operand.tmp 62) 0, type := 0, pos := "valid.go:86", after := #[{ on := 1, ground := Ground.data }], guard := none }) (v := ?_) rfl (by kernel_rfl) (by kernel_rfl) (by kernel_rfl) (fun _ _ _ h => h) (Or.inl ⟨by rfl, ?_⟩) hHeld ?_
            rotate_left
            · intro w hSw
              try dsimp only at hSw
              go_simp
              try with_reducible rfl
            try simp only [Act.put, List.setIfInBounds_toArray, List.set_cons_zero, List.set_cons_succ]
            refine wpAnyH_take (i := 3) (oi := { dst := some 64, op := Op.load 26 (Operand.tmp 63), type := 26, pos := "valid.go:86", after := #[{ on := 2, ground := Ground.data }], guard := none }) (v := ?_) rfl (by kernel_rfl) (by kernel_rfl) (by kernel_rfl) (fun _ _ _ h => h) (Or.inl ⟨by rfl, ?_⟩) hHeld ?_
            rotate_left
            · intro w hSw
              try dsimp only at hSw
              go_simp
              try with_reducible rfl
            try simp only [Act.put, List.setIfInBounds_toArray, List.set_cons_zero, List.set_cons_succ]
            refine wpAnyH_take (i := 4) (oi := { dst := some 65, op := Op.fieldAddr 32 (Operand.tmp 6) 0, type := 0, pos := "valid.go:86", after := #[], guard := none }) (v := ?_) rfl (by kernel_rfl) (by kernel_rfl) (by kernel_rfl) (fun _ _ _ h => h) (Or.inl ⟨by rfl, ?_⟩) hHeld ?_
            rotate_left
            · intro w hSw
              try dsimp only at hSw
              go_simp
              try with_reducible rfl
            try simp only [Act.put, List.setIfInBounds_toArray, List.set_cons_zero, List.set_cons_succ]
            refine wpAnyH_take (i := 5) (oi := { dst := some 66, op := Op.load 9 (Operand.tmp 65), type := 9, pos := "valid.go:86", after := #[{ on := 4, ground := Ground.data }], guard := none }) (v := ?_) rfl (by kernel_rfl) (by kernel_rfl) (by kernel_rfl) (fun _ _ _ h => h) (Or.inl ⟨by rfl, ?_⟩) hHeld ?_
            rotate_left
            · intro w hSw
              try dsimp only at hSw
              go_simp
              try with_reducible rfl
            try simp only [Act.put, List.setIfInBounds_toArray, List.set_cons_zero, List.set_cons_succ]
            refine wpAnyH_take (i := 8) (oi := { dst := some 69, op := Op.move (Operand.const (Value.int IntKind.i64 0)), type := 3, pos := "valid.go:86", after := #[], guard := none }) (v := ?_) rfl (by kernel_rfl) (by kernel_rfl) (by kernel_rfl) (fun _ _ _ h => h) (Or.inl ⟨by rfl, ?_⟩) hHeld ?_
            rotate_left
            · intro w hSw
              try dsimp only at hSw
              go_simp
              try with_reducible rfl
            try simp only [Act.put, List.setIfInBounds_toArray, List.set_cons_zero, List.set_cons_succ]
            refine wpAnyH_ready (rs := [6]) (by kernel_rfl) (by simp) ?_
            refine AllReadyH.cons (o := { dst := some 67, op := Op.call { callee := Callee.value (Operand.func 11), args := #[Operand.tmp 64, Operand.tmp 66], argTypes := #[26, 9] }, type := 40, pos := "valid.go:86", after := #[{ on := 3, ground := Ground.data }, { on := 5, ground := Ground.data }], guard := none }) rfl (fun K hK => ?_) (AllReadyH.nil)
            go_simp
            refine hcc.mono ?_; rintro e0 V4 ⟨A4, c4, cb, rfl, ⟨ht, hch⟩, hb⟩
            have hcl : cb.length ≤ 40 := by have := hch.len; have h2 : (keys cb).length = cb.length := List.length_map ..; have h3 : (net S).ls.length = ln := (by unfold net; rw [List.length_map]; exact hS.l.len); omega
            have HCA := Lib.hid hch.all; clear hch
            try go_wp2_with fail
            have hbk : Below V3.heap.size V3 V4 := (Below.refl _ V3).drew.trans hb
            refine hK.out _ _ (⟨(hb.cell (p := ⟨p, 0, none⟩) x3.f.lt).trans hHeld.1, (hb.cell (p := ⟨p, 1, none⟩) x3.f.lt).trans hHeld.2.1, (hb.cell (p := ⟨p, 2, none⟩) x3.f.lt).trans hHeld.2.2.1, (hb.cell (p := ⟨q, 0, none⟩) y3.lt).trans hHeld.2.2.2⟩) (fun hHeld2 => ?_)
            clear hK K hHeld; have hHeld := hHeld2; clear hHeld2
            try simp only [Act.put, List.setIfInBounds_toArray, List.set_cons_zero, List.set_cons_succ]
            refine wpAnyH_take (i := 7) (oi := { dst := some 68, op := Op.call { callee := Callee.builtin Builtin.len, args := #[Operand.tmp 67], argTypes := #[40] }, type := 3, pos := "valid.go:86", after := #[{ on := 6, ground := Ground.data }], guard := none }) (v := ?_) rfl (by kernel_rfl) (by kernel_rfl) (by kernel_rfl) (fun _ _ _ h => h) (Or.inl ⟨by rfl, ?_⟩) hHeld ?_
            rotate_left
            · intro w hSw
              try dsimp only at hSw
              go_simp
              try with_reducible rfl
            try simp only [Act.put, List.setIfInBounds_toArray, List.set_cons_zero, List.set_cons_succ]
            refine wpAnyH_done (by kernel_rfl) ?_ _
            clear hHeld
            have x4 := x3.below hbk; have y4 := y3.below hbk y3.lt; have m4 := m3.below hbk m3.lt; have b4 := b3.trans (hbk.mono (Nat.le_trans x3.ge (Nat.le_of_lt x3.f.lt)))
            clear s13 hcc hb hbk x3 y3 m3 b3
            have k4 : Kn (net S) (mput m (key l.tg) (.int .i64 ev)) (znames S ++ (lnames S).take j) := HK3.out.less fun s hs => List.mem_append_left _ hs
            clear HK3 HKn
            generalize mput m (key l.tg) (.int .i64 ev) = mm at *
            go_wp2_with fail
            go_loopw [10, 69] (fun _ i wr => ∃ (a : Nat) (m : Key → Option Value) (cn' : Nat), i = .int .i64 (a : Int) ∧ a ≤ cb.length ∧ Fz base wr p ⟨rA, rn, rc, zA, k, zc, some ad, ln, lc⟩ (fl ++ (S.ls.take j).flatMap (asE (net S))) v ∧ Blk wr q 32 #[.string l.tg, .string l.nm] ∧ Smap wr Tryd.prog 9 mb cn' m ∧ cn' ≤ 200 + 1000 * j + a ∧ Kn (net S) m (znames S ++ (lnames S).take j) ∧ Txs wr V4.heap.size A4 cb.length cb ∧ V4.heap.size ≤ wr.heap.size ∧ Below base w wr) (fun _ i _ => cb.length - (intOf i).toNat)
            case atStart => exact ⟨0, mm, cn + 1, rfl, Nat.zero_le _, x4, y4, m4, by omega, k4, ht, Nat.le_refl _, b4⟩
            case round =>
              clear x4 y4 m4 k4 ht b4 mm
              obtain ⟨a, mm, cn', rfl, ha, x4, y4, m4, hcn', k4, ht, hsz4, b4⟩ := hrel
              have K4 := Lib.hid k4; clear k4
              by_cases hlt2 : a < cb.length
              · have hltI2 : (a : Int) < (cb.length : Int) := by omega
                obtain ⟨ad4, eA4, hb4, cc4⟩ := ht.at_ hlt2
                subst eA4
                have hsz5 := ht.p _ (getD_mem ByteArray.empty hlt2)
                have HCl := Lib.hid (show ev = (lead (net S) (key (cb.getD a ByteArray.empty))).e by rw [HCA.out _ (List.mem_map_of_mem (getD_mem ByteArray.empty hlt2))]; exact HEV.out)
                obtain ⟨s5, hs5⟩ : ∃ s, cb.getD a ByteArray.empty = s := ⟨_, rfl⟩
                rw [hs5] at cc4 hsz5 HCl; clear hs5
                have HK5 := Lib.hid ((K4.out.put (key s5) HCl.out).less (K' := znames S ++ (lnames S).take j) fun s hs => List.mem_append_left _ hs)
                go_wp2_with (at_mapUpdate; refine wpList_mput _ rfl _ _ _ 85 rfl 9 35 Tryd.underlying9 Tryd.underlying85 mb cn' mm rfl m4 (by unfold maxLen; omega) s5 rfl hsz5 (.int .i64 ev) rfl ?_; intro W5 m5 g5)
                have x5 := x4.grown g5 (Ne.symm (m4.cells_ne x4.f)) (Lk.own_map_ne x4.o m4).symm
                have y5 : Blk W5 q 32 #[.string l.tg, .string l.nm] := y4.grown g5 (fun e => (m4.cells_ne y4) (Option.some.inj e).symm)
                have t5 := txs_map ht m4 g5 hsz4
                have b5 := b4.grown g5 (Nat.le_trans x4.ge (Nat.le_of_lt x4.f.lt)) (fun q e => by cases e; exact hbw)
                have hsz6 := Nat.le_trans hsz4 g5.size
                clear g5 cc4 x4 y4 m4 ht b4
                go_roundw
                case rel => exact ⟨a + 1, _, _, by go_num, by omega, x5, y5, m5, by omega, HK5.out, t5, hsz6, b5⟩
                case measure => simp [intOf]; omega
              · obtain rfl : a = cb.length := by omega
                have hltI2 : ¬ (cb.length : Int) < (cb.length : Int) := by omega
                clear ht hsz4
                go_upto_region 18 with fail
                by_cases he : ev = 0
                · have heb : (ev != 0) = false := by rw [he]; rfl
                  have HA2 := Lib.hid (show asE (net S) l = [] by rw [HAS.out, if_pos he]); clear he
                  have c1 : wr.cell? ⟨q, 1, none⟩ = some (.string l.nm) := y4.cell 1
                  cases hmn : mm (key l.nm) with
                  | none =>
                    have hno : key l.nm ∉ znames S ++ (lnames S).take j := fun e => by obtain ⟨u, hu⟩ := K4.out.a _ e; rw [hmn] at hu; cases hu
                    have HLe := Lib.hid (show ev = (lead (net S) (key l.nm)).e by rw [HLL.out (fun e => hno (List.mem_append_left _ e)) (fun e => hno (List.mem_append_right _ e))]; exact HEV.out)
                    clear hno
                    have HKp := Lib.hid (K4.out.put (key l.nm) HLe.out)
                    go_wp2_with (first | (at_lookup; refine wpList_look_no _ rfl _ _ 85 rfl 9 35 Tryd.underlying9 Tryd.underlying85 _ (zero_ern _) mb cn' mm rfl m4 l.nm rfl hb2 hmn ?_) | (at_mapUpdate; refine wpList_mput _ rfl _ _ _ 85 rfl 9 35 Tryd.underlying9 Tryd.underlying85 mb cn' mm rfl m4 (by unfold maxLen; omega) l.nm rfl hb2 (.int .i64 ev) rfl ?_; intro W9 m9 g9))
                    have x9 := x4.grown g9 (Ne.symm (m4.cells_ne x4.f)) (Lk.own_map_ne x4.o m4).symm
                    have b9 := b4.grown g9 (Nat.le_trans x4.ge (Nat.le_of_lt x4.f.lt)) (fun q e => by cases e; exact hbw)
                    clear g9 c1 hmn
                    go_roundw
                    case rel => exact ⟨j + 1, v, _, _, by go_num, by omega, by rw [HF.out, HA2.out, List.append_nil]; exact x9, m9, by omega, by rw [HLN.out, ← List.append_assoc]; exact HKp.out, b9⟩
                    case measure => simp [intOf]; omega
                  | some u9 =>
                    have HKp := Lib.hid (K4.out.old hmn)
                    go_wp2_with (at_lookup; refine wpList_look_yes _ rfl _ _ 85 rfl 9 35 Tryd.underlying9 Tryd.underlying85 _ (zero_ern _) mb cn' mm rfl m4 l.nm rfl hb2 u9 hmn ?_)
                    clear hmn
                    go_roundw
                    case rel => exact ⟨j + 1, v, _, _, by go_num, by omega, by rw [HF.out, HA2.out, List.append_nil]; exact x4, m4, by omega, by rw [HLN.out, ← List.append_assoc]; exact HKp.out, b4⟩
                    case measure => simp [intOf]; omega
                · have heb : (ev != 0) = true := by rw [bne_iff_ne]; exact he
                  have HA2 := Lib.hid (show asE (net S) l = [⟨ev, l.nm⟩] by rw [HAS.out, if_neg he]); clear he
                  have c1 : wr.cell? ⟨q, 1, none⟩ = some (.string l.nm) := y4.cell 1
                  go_wp2_with fail
                  refine (put_any base wr p _ _ v ⟨ev, l.nm⟩ x4 hfl).mono ?_; rintro e0 P2 ⟨rfl, v2, xp, hch, hbp⟩
                  have mp := Smap.chg m4 hch x4.f x4.o
                  have yp : Blk P2 q 32 #[.string l.tg, .string l.nm] := Blk.chg y4 hch x4.f x4.o (by decide) (by decide)
                  have bp := b4.trans hbp
                  clear hch hbp c1 x4 m4 y4 b4
                  have c1 : P2.cell? ⟨q, 1, none⟩ = some (.string l.nm) := yp.cell 1
                  cases hmn : mm (key l.nm) with
                  | none =>
                    have hno : key l.nm ∉ znames S ++ (lnames S).take j := fun e => by obtain ⟨u, hu⟩ := K4.out.a _ e; rw [hmn] at hu; cases hu
                    have HLe := Lib.hid (show ev = (lead (net S) (key l.nm)).e by rw [HLL.out (fun e => hno (List.mem_append_left _ e)) (fun e => hno (List.mem_append_right _ e))]; exact HEV.out)
                    clear hno
                    have HKp := Lib.hid (K4.out.put (key l.nm) HLe.out)
                    go_wp2_with (first | (at_lookup; refine wpList_look_no _ rfl _ _ 85 rfl 9 35 Tryd.underlying9 Tryd.underlying85 _ (zero_ern _) mb cn' mm rfl mp l.nm rfl hb2 hmn ?_) | (at_mapUpdate; refine wpList_mput _ rfl _ _ _ 85 rfl 9 35 Tryd.underlying9 Tryd.underlying85 mb cn' mm rfl mp (by unfold maxLen; omega) l.nm rfl hb2 (.int .i64 ev) rfl ?_; intro W9 m9 g9))
                    have x9 := xp.grown g9 (Ne.symm (mp.cells_ne xp.f)) (Lk.own_map_ne xp.o mp).symm
                    have b9 := bp.grown g9 (Nat.le_trans xp.ge (Nat.le_of_lt xp.f.lt)) (fun q e => by cases e; exact hbw)
                    clear g9 c1 hmn
                    go_roundw
                    case rel => exact ⟨j + 1, v2, _, _, by go_num, by omega, by rw [HF.out, HA2.out, ← List.append_assoc]; exact x9, m9, by omega, by rw [HLN.out, ← List.append_assoc]; exact HKp.out, b9⟩
                    case measure => simp [intOf]; omega
                  | some u9 =>
                    have HKp := Lib.hid (K4.out.old hmn)
                    go_wp2_with (at_lookup; refine wpList_look_yes _ rfl _ _ 85 rfl 9 35 Tryd.underlying9 Tryd.underlying85 _ (zero_ern _) mb cn' mm rfl mp l.nm rfl hb2 u9 hmn ?_)
                    clear hmn
                    go_roundw
                    case rel => exact ⟨j + 1, v2, _, _, by go_num, by omega, by rw [HF.out, HA2.out, ← List.append_assoc]; exact xp, mp, by omega, by rw [HLN.out, ← List.append_assoc]; exact HKp.out, bp⟩
                    case measure => simp [intOf]; omega
          | some u =>
            have hu := HKn.out.r _ _ hmt
            rw [← HEV.out] at hu
            subst hu
            go_upto_region 18 with (at_lookup; refine wpList_look_yes _ rfl _ _ 85 rfl 9 35 Tryd.underlying9 Tryd.underlying85 _ (zero_ern _) mb cn m rfl ma l.tg rfl hb1 (.int .i64 ev) hmt ?_)
            clear hmt c0
            by_cases he : ev = 0
            · have heb : (ev != 0) = false := by rw [he]; rfl
              have HA2 := Lib.hid (show asE (net S) l = [] by rw [HAS.out, if_pos he]); clear he
              have c1 : V.cell? ⟨q, 1, none⟩ = some (.string l.nm) := ya.cell 1
              cases hmn : m (key l.nm) with
              | none =>
                have hno : key l.nm ∉ znames S ++ (lnames S).take j := fun e => by obtain ⟨u, hu⟩ := HKn.out.a _ e; rw [hmn] at hu; cases hu
                have HLe := Lib.hid (show ev = (lead (net S) (key l.nm)).e by rw [HLL.out (fun e => hno (List.mem_append_left _ e)) (fun e => hno (List.mem_append_right _ e))]; exact HEV.out)
                clear hno
                have HKp := Lib.hid (HKn.out.put (key l.nm) HLe.out)
                go_wp2_with (first | (at_lookup; refine wpList_look_no _ rfl _ _ 85 rfl 9 35 Tryd.underlying9 Tryd.underlying85 _ (zero_ern _) mb cn m rfl ma l.nm rfl hb2 hmn ?_) | (at_mapUpdate; refine wpList_mput _ rfl _ _ _ 85 rfl 9 35 Tryd.underlying9 Tryd.underlying85 mb cn m rfl ma (by unfold maxLen; omega) l.nm rfl hb2 (.int .i64 ev) rfl ?_; intro W9 m9 g9))
                have x9 := xa.grown g9 (Ne.symm (ma.cells_ne xa.f)) (Lk.own_map_ne xa.o ma).symm
                have b9 := ba.grown g9 (Nat.le_trans xa.ge (Nat.le_of_lt xa.f.lt)) (fun q e => by cases e; exact hbw)
                clear g9 c1 hmn
                go_roundw
                case rel => exact ⟨j + 1, v, _, _, by go_num, by omega, by rw [HF.out, HA2.out, List.append_nil]; exact x9, m9, by omega, by rw [HLN.out, ← List.append_assoc]; exact HKp.out, b9⟩
                case measure => simp [intOf]; omega
              | some u9 =>
                have HKp := Lib.hid (HKn.out.old hmn)
                go_wp2_with (at_lookup; refine wpList_look_yes _ rfl _ _ 85 rfl 9 35 Tryd.underlying9 Tryd.underlying85 _ (zero_ern _) mb cn m rfl ma l.nm rfl hb2 u9 hmn ?_)
                clear hmn
                go_roundw
                case rel => exact ⟨j + 1, v, _, _, by go_num, by omega, by rw [HF.out, HA2.out, List.append_nil]; exact xa, ma, by omega, by rw [HLN.out, ← List.append_assoc]; exact HKp.out, ba⟩
                case measure => simp [intOf]; omega
            · have heb : (ev != 0) = true := by rw [bne_iff_ne]; exact he
              have HA2 := Lib.hid (show asE (net S) l = [⟨ev, l.nm⟩] by rw [HAS.out, if_neg he]); clear he
              have c1 : V.cell? ⟨q, 1, none⟩ = some (.string l.nm) := ya.cell 1
              go_wp2_with fail
              refine (put_any base V p _ _ v ⟨ev, l.nm⟩ xa hfl).mono ?_; rintro e0 P2 ⟨rfl, v2, xp, hch, hbp⟩
              have mp := Smap.chg ma hch xa.f xa.o
              have yp : Blk P2 q 32 #[.string l.tg, .string l.nm] := Blk.chg ya hch xa.f xa.o (by decide) (by decide)
              have bp := ba.trans hbp
              clear hch hbp c1 xa ma ya ba
              have c1 : P2.cell? ⟨q, 1, none⟩ = some (.string l.nm) := yp.cell 1
              cases hmn : m (key l.nm) with
              | none =>
                have hno : key l.nm ∉ znames S ++ (lnames S).take j := fun e => by obtain ⟨u, hu⟩ := HKn.out.a _ e; rw [hmn] at hu; cases hu
                have HLe := Lib.hid (show ev = (lead (net S) (key l.nm)).e by rw [HLL.out (fun e => hno (List.mem_append_left _ e)) (fun e => hno (List.mem_append_right _ e))]; exact HEV.out)
                clear hno
                have HKp := Lib.hid (HKn.out.put (key l.nm) HLe.out)
                go_wp2_with (first | (at_lookup; refine wpList_look_no _ rfl _ _ 85 rfl 9 35 Tryd.underlying9 Tryd.underlying85 _ (zero_ern _) mb cn m rfl mp l.nm rfl hb2 hmn ?_) | (at_mapUpdate; refine wpList_mput _ rfl _ _ _ 85 rfl 9 35 Tryd.underlying9 Tryd.underlying85 mb cn m rfl mp (by unfold maxLen; omega) l.nm rfl hb2 (.int .i64 ev) rfl ?_; intro W9 m9 g9))
                have x9 := xp.grown g9 (Ne.symm (mp.cells_ne xp.f)) (Lk.own_map_ne xp.o mp).symm
                have b9 := bp.grown g9 (Nat.le_trans xp.ge (Nat.le_of_lt xp.f.lt)) (fun q e => by cases e; exact hbw)
                clear g9 c1 hmn
                go_roundw
                case rel => exact ⟨j + 1, v2, _, _, by go_num, by omega, by rw [HF.out, HA2.out, ← List.append_assoc]; exact x9, m9, by omega, by rw [HLN.out, ← List.append_assoc]; exact HKp.out, b9⟩
                case measure => simp [intOf]; omega
              | some u9 =>
                have HKp := Lib.hid (HKn.out.old hmn)
                go_wp2_with (at_lookup; refine wpList_look_yes _ rfl _ _ 85 rfl 9 35 Tryd.underlying9 Tryd.underlying85 _ (zero_ern _) mb cn m rfl mp l.nm rfl hb2 u9 hmn ?_)
                clear hmn
                go_roundw
                case rel => exact ⟨j + 1, v2, _, _, by go_num, by omega, by rw [HF.out, HA2.out, ← List.append_assoc]; exact xp, mp, by omega, by rw [HLN.out, ← List.append_assoc]; exact HKp.out, bp⟩
                case measure => simp [intOf]; omega
        · obtain rfl : j = ln := by omega
          have hltI : ¬ (j : Int) < (j : Int) := by omega
          rw [take_all hS.l.len] at x
          go_wp2_with fail
          go_end0
          exact ⟨rfl, v, x, b⟩
end Go.Proofs.YtnoaeejdcdeanaaDoor.Va
