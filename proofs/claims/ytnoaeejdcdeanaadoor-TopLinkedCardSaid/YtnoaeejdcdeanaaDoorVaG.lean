/-
  RULES THAT ARE MISSING; ERAS THAT ARE NOT IN ORDER: walked.
-/
import Derived.Test.YtnoaeejdcdeanaaDoorVaF
namespace Go.Proofs.YtnoaeejdcdeanaaDoor.Va
open Go.ChangeShapes Go.WideShapes Go.ChangeAt Go.RowKit Go.Shelf
open Go.Proofs.YtnoaeejdcdeanaaDoor
open Go.Proofs.YtnoaeejdcdeanaaDoor.Wd
open Go.Proofs.YtnoaeejdcdeanaaDoor.Sr
open Go.Proofs.YtnoaeejdcdeanaaDoor.Sl
set_option linter.unusedVariables false
set_option linter.unusedSimpArgs false
open Go.Proofs.YtnoaeejdcdeanaaDoor.Civ (Tab)
open Go.Proofs.YtnoaeejdcdeanaaDoor.Mo (nomV nomE nominal_any)
open Go.Proofs.YtnoaeejdcdeanaaDoor.Lk (zero_int)
open Go.Proofs.YtnoaeejdcdeanaaDoor.Mp (Smap mput wpList_look_no wpList_look_yes wpList_mput)
theorem miE_len (R : List ByteArray) (e : Er) : (miE R e).length ≤ 1 := by unfold miE; split; split <;> simp; simp
theorem miZ_len (R : List ByteArray) (z : Zn) (h : z.es.length ≤ 12) : (miZ R z).length ≤ 12 := by
  have := flat_le (f := miE R) z.es (fun a _ => miE_len R a); unfold miZ; omega
theorem fm_at {α β : Type} {f : α → List β} {l : List α} {d a : α} {k : Nat} (h : k < l.length) (ha : l.getD k d = a) : (l.take (k + 1)).flatMap f = (l.take k).flatMap f ++ f a := by subst ha; exact fm_succ f l d k h
theorem take_all {α : Type} {l : List α} {n : Nat} (h : l.length = n) : l.take n = l := List.take_of_length_le (by omega)
theorem rname_at {l : List Ru} {k : Nat} {r : Ru} (h : k < l.length) (hr : l.getD k Ru.nil = r) : ((l.take (k + 1)).map (·.nm)).map key = ((l.take k).map (·.nm)).map key ++ [key r.nm] := by
  subst hr; rw [getD_take Ru.nil h]; simp
set_option maxRecDepth 100000 in
set_option maxHeartbeats 12800000 in
theorem missing_any (base p : Nat) (h : Hd) (S : So) (fl : List Fl) (v : Value) (w : World) (x : Fz base w p h fl v) (hS : SoR w base h S) (hz : h.zn ≤ 12) (hr : h.rn ≤ 100) (hsz : ∀ z ∈ S.zs, ZnS z) (hf : fl.length ≤ 1000) :
    Calls Tryd.prog 16 #[.pointer (some ⟨p, 0, none⟩)] w (FzP base w p h (fl ++ miF S)) := by
  have hbw : base ≤ w.heap.size := Nat.le_trans x.ge (Nat.le_of_lt x.f.lt)
  have b0 := (Below.refl base w).alloc hbw (.map #[] 0)
  have x0 := x.below ((Below.refl _ w).alloc (Nat.le_refl _) (.map #[] 0))
  have m0 := Smap.made w Tryd.prog 9
  obtain ⟨rA, rn, rc, zA, zn, zc, lA, ln, lc⟩ := h
  dsimp only at hz hr
  have c0 : (w.alloc (.map #[] 0)).cell? ⟨p, 0, none⟩ = some (.slice rA rn rc) := x0.f.cell 0
  have hmk := @run_makeMap Tryd.prog
  go_enter Tryd.func16, Tryd.ntmps16
  go_upto_region 2 with fail
  clear c0
  generalize w.alloc (.map #[] 0) = W at *
  generalize w.heap.size = mb at *
  clear x hmk
  go_loopw [3, 4, 18] (fun _ _ i wr => ∃ (k : Nat) (m : Key → Option Value), i = .int .i64 (k : Int) ∧ k ≤ rn ∧ Fz base wr p ⟨rA, rn, rc, zA, zn, zc, lA, ln, lc⟩ fl v ∧ Smap wr Tryd.prog 9 mb k m ∧ Dom m (((S.rs.take k).map (·.nm)).map key) ∧ Below base w wr) (fun _ _ i _ => rn - (intOf i).toNat)
  case atStart => exact ⟨0, _, rfl, Nat.zero_le _, x0, m0, Dom.nil, b0⟩
  case round =>
    clear x0 m0 b0
    obtain ⟨k, m, rfl, hk, x, hm, hd, b⟩ := hrel
    by_cases hlt : k < rn
    · have hltI : (k : Int) < (rn : Int) := by omega
      obtain ⟨ad, eA, hrow⟩ := (hS.r.below b).row (fun _ => rfl) Ru.nil hlt
      dsimp only at eA
      subst eA
      have hlr : k < S.rs.length := by rw [hS.r.len]; exact hlt
      have hbz := (hS.rb _ (getD_mem Ru.nil hlr)).1
      obtain ⟨r, hr1⟩ : ∃ r, S.rs.getD k Ru.nil = r := ⟨_, rfl⟩
      rw [hr1] at hrow hbz
      have HK := Lib.hid (rname_at hlr hr1); clear hr1
      have HD2 := Lib.hid (hd.put (key r.nm) (.int .i64 (k : Int))); clear hd
      have xa := x.below ((Below.refl _ wr).alloc (Nat.le_refl _) (.cells r.C 61)); have ya := Blk.new wr 61 r.C; have ma := hm.alloc (.cells r.C 61); have ba := b.alloc (Nat.le_trans x.ge (Nat.le_of_lt x.f.lt)) (.cells r.C 61)
      go_upto_region 4 with (first | (refine wpList_at_g rfl 61 _ rfl base _ r.C rfl _ hrow Tryd.underlying61 rfl (by kernel_rfl) ?_) | (refine wpList_store_new rfl 61 _ _ rfl rfl wr.heap.size r.C rfl rfl _ #[.string ⟨#[]⟩, .int .i64 0, .int .i64 0, .int .i64 0, .int .u8 0, .int .i64 0, .int .i64 0, .int .i64 0, .int .u8 0, .int .i64 0, .string ⟨#[]⟩] wr rfl rfl rfl (by kernel_rfl) (by kernel_rfl) ?_))
      generalize wr.alloc (.cells r.C 61) = V at *
      obtain ⟨q, hq⟩ : ∃ q, wr.heap.size = q := ⟨_, rfl⟩
      simp only [hq] at ya ⊢
      clear hq hrow x hm b
      have c1 : V.cell? ⟨q, 0, none⟩ = some (.string r.nm) := ya.cell 0
      go_wp2_with (at_mapUpdate; refine wpList_mput _ rfl _ _ _ 79 rfl 9 3 Tryd.underlying9 Tryd.underlying79 mb k _ rfl ma (by unfold maxLen; omega) r.nm rfl hbz _ rfl ?_; intro W2 hm2 hg2)
      have x2 := xa.grown hg2 (Ne.symm (ma.cells_ne xa.f)) (Lk.own_map_ne xa.o ma).symm
      have b2 := ba.grown hg2 (Nat.le_trans xa.ge (Nat.le_of_lt xa.f.lt)) (fun q e => by cases e; exact hbw)
      clear xa ma hg2 ba c1 ya
      go_roundw
      case rel => exact ⟨k + 1, _, by go_num, by omega, x2, hm2, by rw [HK.out]; exact HD2.out, b2⟩
      case measure => simp [intOf]; omega
    · obtain rfl : k = rn := by omega
      have hltI : ¬ (k : Int) < (k : Int) := by omega
      rw [take_all hS.r.len] at hd
      have HD := Lib.hid hd; clear hd
      have c1 : wr.cell? ⟨p, 1, none⟩ = some (.slice zA zn zc) := x.f.cell 1
      go_upto_region 7 with fail
      clear c1
      go_loopw [6, 8, 9, 10, 34, 38, 39, 40, 41] (fun _ _ _ _ i _ _ _ _ wr => ∃ (j : Nat) (v : Value), i = .int .i64 (j : Int) ∧ j ≤ zn ∧ Fz base wr p ⟨rA, k, rc, zA, zn, zc, lA, ln, lc⟩ (fl ++ (S.zs.take j).flatMap (miZ (rnames S))) v ∧ Smap wr Tryd.prog 9 mb k m ∧ Below base w wr) (fun _ _ _ _ i _ _ _ _ _ => zn - (intOf i).toNat)
      case atStart => exact ⟨0, v, rfl, Nat.zero_le _, by simpa using x, hm, b⟩
      case round =>
        clear x hm b
        obtain ⟨j, v, rfl, hj, x, hm, b⟩ := hrel
        by_cases hlt : j < zn
        · have hltI : (j : Int) < (zn : Int) := by omega
          obtain ⟨ad, eA, hrow⟩ := (hS.z.below b).row (fun _ => rfl) Zn.nil hlt
          dsimp only at eA
          subst eA
          have hlz : j < S.zs.length := by rw [hS.z.len]; exact hlt
          have hmem := getD_mem (L := S.zs) Zn.nil hlz
          have hZ := (hS.zb _ hmem).below b; have hZs := hsz _ hmem
          obtain ⟨z, hz1⟩ : ∃ z, S.zs.getD j Zn.nil = z := ⟨_, rfl⟩
          rw [hz1] at hrow hZ hZs
          have HF := Lib.hid (fm_at (f := miZ (rnames S)) hlz hz1); clear hz1 hmem
          have hfl : ((S.zs.take j).flatMap (miZ (rnames S))).length ≤ 12 * 12 := by
            have := flat_le (f := miZ (rnames S)) (c := 12) (S.zs.take j) (fun a ha => miZ_len _ a (by have h1 := hsz _ (List.mem_of_mem_take ha); have h2 := (hS.zb _ (List.mem_of_mem_take ha)).2.1.len; have := h1.1; omega))
            have h3 : (S.zs.take j).length ≤ 12 := by rw [List.length_take]; omega
            omega
          obtain ⟨znm, zA', zn', zc', es⟩ := z
          have xa := x.below ((Below.refl _ wr).alloc (Nat.le_refl _) (.cells #[.string znm, .slice zA' zn' zc'] 59)); have ya := Blk.new wr 59 #[.string znm, .slice zA' zn' zc']; have ma := hm.alloc (.cells #[.string znm, .slice zA' zn' zc'] 59); have ba := b.alloc (Nat.le_trans x.ge (Nat.le_of_lt x.f.lt)) (.cells #[.string znm, .slice zA' zn' zc'] 59)
          go_upto_region 9 with (first | (refine wpList_at_g rfl 59 _ rfl base _ #[.string znm, .slice zA' zn' zc'] rfl _ hrow Tryd.underlying59 rfl (by kernel_rfl) ?_) | (refine wpList_store_new rfl 59 _ _ rfl rfl wr.heap.size #[.string znm, .slice zA' zn' zc'] rfl rfl _ #[.string ⟨#[]⟩, .slice none 0 0] wr rfl rfl rfl (by kernel_rfl) (by kernel_rfl) ?_))
          have hZ2 := hZ.below (Below.alloc (Below.refl base wr) (Nat.le_trans x.ge (Nat.le_of_lt x.f.lt)) (.cells #[.string znm, .slice zA' zn' zc'] 59)); clear hZ
          generalize wr.alloc (.cells #[.string znm, .slice zA' zn' zc'] 59) = V at *
          obtain ⟨q, hq⟩ : ∃ q, wr.heap.size = q := ⟨_, rfl⟩
          simp only [hq] at ya ⊢
          clear hq hrow x hm b
          have c1 : V.cell? ⟨q, 1, none⟩ = some (.slice zA' zn' zc') := ya.cell 1
          go_upto_region 10 with fail
          clear c1 ya
          have hEl := hZ2.2.1.len; have hEr := hZ2.2.1; have hEb := hZ2.2.2.1; have hEn : zn' ≤ 12 := hZs.1; have hEs := hZs.2.2
          clear hZ2 hZs
          go_loopw [8, 9, 10, 41] (fun _ _ _ i wr => ∃ (i_ : Nat) (v : Value), i = .int .i64 (i_ : Int) ∧ i_ ≤ zn' ∧ Fz base wr p ⟨rA, k, rc, some ad, zn, zc, lA, ln, lc⟩ (fl ++ (S.zs.take j).flatMap (miZ (rnames S)) ++ (es.take i_).flatMap (miE (rnames S))) v ∧ Smap wr Tryd.prog 9 mb k m ∧ Below base V wr) (fun _ _ _ i _ => zn' - (intOf i).toNat)
          case atStart => exact ⟨0, v, rfl, Nat.zero_le _, by simpa using xa, ma, Below.refl _ _⟩
          case round =>
            clear xa ma
            obtain ⟨i, v, rfl, hi, x, hm, b⟩ := hrel
            by_cases hlt2 : i < zn'
            · have hltI2 : (i : Int) < (zn' : Int) := by omega
              obtain ⟨ad2, eA, hrow⟩ := (hEr.below b).row (fun _ => rfl) Er.nil hlt2
              dsimp only at eA
              subst eA
              have hle : i < es.length := by rw [hEl]; exact hlt2
              have hmem := getD_mem (L := es) Er.nil hle
              have hE := hEb _ hmem
              obtain ⟨e, he1⟩ : ∃ e, es.getD i Er.nil = e := ⟨_, rfl⟩
              rw [he1] at hrow hE
              have HG := Lib.hid (fm_at (f := miE (rnames S)) hle he1); clear he1 hmem
              have hfl2 : (fl ++ (S.zs.take j).flatMap (miZ (rnames S)) ++ (es.take i).flatMap (miE (rnames S))).length ≤ 100000 := by
                have := flat_le (f := miE (rnames S)) (c := 1) (es.take i) (fun a _ => miE_len _ a)
                have h3 : (es.take i).length ≤ 12 := by rw [List.length_take]; omega
                rw [List.length_append, List.length_append]; omega
              have xa := x.below ((Below.refl _ wr).alloc (Nat.le_refl _) (.cells e.C 56)); have ya := Blk.new wr 56 e.C; have ma := hm.alloc (.cells e.C 56); have be := b.alloc (Nat.le_trans x.ge (Nat.le_of_lt x.f.lt)) (.cells e.C 56)
              go_upto_region 12 with (first | (refine wpList_at_g rfl 56 _ rfl base _ e.C rfl _ hrow Tryd.underlying56 rfl (by kernel_rfl) ?_) | (refine wpList_store_new rfl 56 _ _ rfl rfl wr.heap.size e.C rfl rfl _ #[.int .i64 0, .int .u8 0, .int .i64 0, .string ⟨#[]⟩, .string ⟨#[]⟩, .bool false, .int .i64 0, .int .i64 0, .int .u8 0, .int .i64 0, .int .i64 0, .int .i64 0, .int .u8 0] wr rfl rfl rfl (by kernel_rfl) (by kernel_rfl) ?_))
              generalize wr.alloc (.cells e.C 56) = U at *
              obtain ⟨q2, hq2⟩ : ∃ q, wr.heap.size = q := ⟨_, rfl⟩
              simp only [hq2] at ya ⊢
              clear hq2 hrow x hm b
              have c1 : U.cell? ⟨q2, 1, none⟩ = some (.int .u8 e.kd) := ya.cell 1
              have c3 : U.cell? ⟨q2, 3, none⟩ = some (.string e.ru) := ya.cell 3
              by_cases hkd : e.kd = 2
              · have hkb : (e.kd != 2) = false := by rw [hkd]; rfl
                have HKd := Lib.hid hkd; clear hkd
                by_cases hin : key e.ru ∈ (rnames S).map key
                · obtain ⟨u, hu⟩ := HD.out.yes hin
                  have HG2 := Lib.hid (show miE (rnames S) e = [] by unfold miE; rw [if_pos HKd.out, if_pos hin])
                  clear hin
                  go_wp2_with ((at_lookup; refine wpList_look_yes _ rfl _ _ 79 rfl 9 3 Tryd.underlying9 Tryd.underlying79 _ (zero_int _) mb k m rfl ma e.ru rfl hE.1 u hu ?_))
                  go_roundw
                  case rel => exact ⟨i + 1, v, by go_num, by omega, by rw [HG.out, HG2.out, List.append_nil]; exact xa, ma, be⟩
                  case measure => simp [intOf]; omega
                · have hu := HD.out.no hin
                  have HG2 := Lib.hid (show miE (rnames S) e = [⟨3, e.ru⟩] by unfold miE; rw [if_pos HKd.out, if_neg hin])
                  clear hin
                  go_wp2_with ((at_lookup; refine wpList_look_no _ rfl _ _ 79 rfl 9 3 Tryd.underlying9 Tryd.underlying79 _ (zero_int _) mb k m rfl ma e.ru rfl hE.1 hu ?_))
                  refine (put_any base U p _ _ v ⟨3, e.ru⟩ xa hfl2).mono ?_; rintro e0 W2 ⟨rfl, v2, x2, hch, hb2⟩
                  have hm2 := Smap.chg ma hch xa.f xa.o
                  have b2 := be.trans hb2
                  clear xa ma hch hb2 be c1 c3 ya
                  go_wp2_with fail
                  go_roundw
                  case rel => exact ⟨i + 1, v2, by go_num, by omega, by rw [HG.out, HG2.out, ← List.append_assoc]; exact x2, hm2, b2⟩
                  case measure => simp [intOf]; omega
              · have hkb : (e.kd != 2) = true := by rw [bne_iff_ne]; exact hkd
                have HG2 := Lib.hid (show miE (rnames S) e = [] by unfold miE; rw [if_neg hkd])
                clear hkd
                go_wp2_with fail
                go_roundw
                case rel => exact ⟨i + 1, v, by go_num, by omega, by rw [HG.out, HG2.out, List.append_nil]; exact xa, ma, be⟩
                case measure => simp [intOf]; omega
            · obtain rfl : i = zn' := by omega
              have hltI2 : ¬ (i : Int) < (i : Int) := by omega
              rw [take_all hEl] at x
              have b2 := ba.trans b
              clear b ba
              have HF2 := Lib.hid (show miZ (rnames S) ⟨znm, zA', i, zc', es⟩ = es.flatMap (miE (rnames S)) from rfl)
              go_wp2_with fail
              go_roundw
              case rel => exact ⟨j + 1, v, by go_num, by omega, by rw [HF.out, HF2.out, ← List.append_assoc]; exact x, hm, b2⟩
              case measure => simp [intOf]; omega
        · obtain rfl : j = zn := by omega
          have hltI : ¬ (j : Int) < (j : Int) := by omega
          rw [take_all hS.z.len] at x
          go_wp2_with fail
          go_end0
          exact ⟨rfl, v, x, b⟩
theorem diK_at {z : Zn} {k : Nat} {e : Er} (h : k < z.es.length) (he : z.es.getD k Er.nil = e) : diK z (k + 1) = diS z.nm (diK z k) e := by subst he; exact diK_succ z k h
theorem diS_len (nm : ByteArray) (st : List Fl × Int × Bool) (e : Er) : (diS nm st e).1.length ≤ st.1.length + 1 := by
  unfold diS
  split
  · split
    · split <;> simp
    · simp
  · omega
theorem diK_len (z : Zn) (k : Nat) (h : k ≤ z.es.length) : (diK z k).1.length ≤ k := by
  induction k with
  | zero => simp [diK]
  | succ k ih => rw [diK_succ z k (by omega)]; have := diS_len z.nm (diK z k) (er_ z.es k); have := ih (by omega); omega
theorem diS_0 {nm : ByteArray} {F : List Fl} {la : Int} {en : Bool} {e : Er} (h : e.en = false) : diS nm (F, la, en) e = (F, la, en) := by unfold diS; rw [if_neg (by rw [h]; decide)]
theorem diS_1 {nm : ByteArray} {F : List Fl} {la : Int} {en : Bool} {e : Er} (h : e.en = true) (h2 : eE e ≠ 0) : diS nm (F, la, en) e = (F ++ [⟨10, nm⟩], la, en) := by unfold diS; rw [if_pos h, if_neg h2]
theorem diS_2 {nm : ByteArray} {F : List Fl} {la : Int} {en : Bool} {e : Er} (h : e.en = true) (h2 : eE e = 0) (h3 : en = true) (h4 : eV e ≤ la) : diS nm (F, la, en) e = (F ++ [⟨10, nm⟩], eV e, true) := by unfold diS; rw [if_pos h, if_pos h2, if_pos ⟨h3, h4⟩]
theorem diS_3 {nm : ByteArray} {F : List Fl} {la : Int} {en : Bool} {e : Er} (h : e.en = true) (h2 : eE e = 0) (h3 : ¬ (en = true ∧ eV e ≤ la)) : diS nm (F, la, en) e = (F, eV e, true) := by unfold diS; rw [if_pos h, if_pos h2, if_neg h3, List.append_nil]
set_option maxRecDepth 100000 in
set_option maxHeartbeats 12800000 in
theorem disorder_any (base p : Nat) (h : Hd) (S : So) (fl : List Fl) (v : Value) (w : World) (x : Fz base w p h fl v) (hT : Tab w) (hbase : 0 < base) (hS : SoR w base h S) (hz : h.zn ≤ 12) (hsz : ∀ z ∈ S.zs, ZnS z) (hf : fl.length ≤ 10000) :
    Calls Tryd.prog 17 #[.pointer (some ⟨p, 0, none⟩)] w (FzP base w p h (fl ++ diF S)) := by
  have hbw : base ≤ w.heap.size := Nat.le_trans x.ge (Nat.le_of_lt x.f.lt)
  have b0 := Below.refl base w
  obtain ⟨rA, rn, rc, zA, zn, zc, lA, ln, lc⟩ := h
  dsimp only at hz
  have c1 : w.cell? ⟨p, 1, none⟩ = some (.slice zA zn zc) := x.f.cell 1
  go_enter Tryd.func17, Tryd.ntmps17
  go_upto_region 1 with fail
  clear c1
  go_loopw [3, 4, 5, 7, 8, 9, 10, 17, 21, 22, 23, 24] (fun _ _ _ _ _ _ _ i _ _ _ _ wr => ∃ (j : Nat) (v : Value), i = .int .i64 (j : Int) ∧ j ≤ zn ∧ Fz base wr p ⟨rA, rn, rc, zA, zn, zc, lA, ln, lc⟩ (fl ++ (S.zs.take j).flatMap diZ) v ∧ Below base w wr) (fun _ _ _ _ _ _ _ i _ _ _ _ _ => zn - (intOf i).toNat)
  case atStart => exact ⟨0, v, rfl, Nat.zero_le _, by simpa using x, b0⟩
  case round =>
    clear x b0
    obtain ⟨j, v, rfl, hj, x, b⟩ := hrel
    by_cases hlt : j < zn
    · have hltI : (j : Int) < (zn : Int) := by omega
      obtain ⟨ad, eA, hrow⟩ := (hS.z.below b).row (fun _ => rfl) Zn.nil hlt
      dsimp only at eA
      subst eA
      have hlz : j < S.zs.length := by rw [hS.z.len]; exact hlt
      have hmem := getD_mem (L := S.zs) Zn.nil hlz
      have hZ := (hS.zb _ hmem).below b; have hZs := hsz _ hmem
      obtain ⟨z, hz1⟩ : ∃ z, S.zs.getD j Zn.nil = z := ⟨_, rfl⟩
      rw [hz1] at hrow hZ hZs
      have HF := Lib.hid (fm_at (f := diZ) hlz hz1); clear hz1 hmem
      have hfl : ((S.zs.take j).flatMap diZ).length ≤ 12 * 12 := by
        have := flat_le (f := diZ) (c := 12) (S.zs.take j) (fun a ha => by have h0 := diK_len a a.es.length (Nat.le_refl _); have h1 := hsz _ (List.mem_of_mem_take ha); have h2 := (hS.zb _ (List.mem_of_mem_take ha)).2.1.len; have := h1.1; show (diK a a.es.length).1.length ≤ 12; omega)
        have h3 : (S.zs.take j).length ≤ 12 := by rw [List.length_take]; omega
        omega
      obtain ⟨znm, zA', zn', zc', es⟩ := z
      have xa := x.below ((Below.refl _ wr).alloc (Nat.le_refl _) (.cells #[.string znm, .slice zA' zn' zc'] 59)); have ya := Blk.new wr 59 #[.string znm, .slice zA' zn' zc']; have ba := b.alloc (Nat.le_trans x.ge (Nat.le_of_lt x.f.lt)) (.cells #[.string znm, .slice zA' zn' zc'] 59)
      go_upto_region 5 with (first | (refine wpList_at_g rfl 59 _ rfl base _ #[.string znm, .slice zA' zn' zc'] rfl _ hrow Tryd.underlying59 rfl (by kernel_rfl) ?_) | (refine wpList_store_new rfl 59 _ _ rfl rfl wr.heap.size #[.string znm, .slice zA' zn' zc'] rfl rfl _ #[.string ⟨#[]⟩, .slice none 0 0] wr rfl rfl rfl (by kernel_rfl) (by kernel_rfl) ?_))
      have hZ2 := hZ.below (Below.alloc (Below.refl base wr) (Nat.le_trans x.ge (Nat.le_of_lt x.f.lt)) (.cells #[.string znm, .slice zA' zn' zc'] 59)); clear hZ
      generalize wr.alloc (.cells #[.string znm, .slice zA' zn' zc'] 59) = V at *
      obtain ⟨q, hq⟩ : ∃ q, wr.heap.size = q := ⟨_, rfl⟩
      have hqb : base ≤ q := by rw [← hq]; exact Nat.le_trans x.ge (Nat.le_of_lt x.f.lt)
      simp only [hq] at ya ⊢
      clear hq hrow x b
      have c1 : V.cell? ⟨q, 1, none⟩ = some (.slice zA' zn' zc') := ya.cell 1
      go_upto_region 6 with fail
      clear c1
      have hEl := hZ2.2.1.len; have hEr := hZ2.2.1; have hEb := hZ2.2.2.1; have hEn : zn' ≤ 12 := hZs.1; have hEs := hZs.2.2
      clear hZ2 hZs
      go_loopw [4, 5, 7, 8, 9, 10, 24] (fun c4 c5 _ _ _ _ i wr => ∃ (i_ : Nat) (v : Value) (F : List Fl) (la : Int) (en : Bool), i = .int .i64 (i_ : Int) ∧ c4 = .int .i64 la ∧ c5 = .bool en ∧ i_ ≤ zn' ∧ diK ⟨znm, zA', zn', zc', es⟩ i_ = (F, la, en) ∧ Fz base wr p ⟨rA, rn, rc, some ad, zn, zc, lA, ln, lc⟩ (fl ++ (S.zs.take j).flatMap diZ ++ F) v ∧ Blk wr q 59 #[.string znm, .slice zA' zn' zc'] ∧ Below base V wr) (fun _ _ _ _ _ _ i _ => zn' - (intOf i).toNat)
      case atStart => exact ⟨0, v, [], 0, false, rfl, rfl, rfl, Nat.zero_le _, rfl, by simpa using xa, ya, Below.refl _ _⟩
      case round =>
        clear xa ya
        obtain ⟨i, v, F, la, en, rfl, rfl, rfl, hi, hst, x, yz, b⟩ := hrel
        have HST := Lib.hid hst; clear hst
        by_cases hlt2 : i < zn'
        · have hltI2 : (i : Int) < (zn' : Int) := by omega
          obtain ⟨ad2, eA, hrow⟩ := (hEr.below b).row (fun _ => rfl) Er.nil hlt2
          dsimp only at eA
          subst eA
          have hle : i < es.length := by rw [hEl]; exact hlt2
          have hmem := getD_mem (L := es) Er.nil hle
          have hE := hEb _ hmem
          obtain ⟨e, he1⟩ : ∃ e, es.getD i Er.nil = e := ⟨_, rfl⟩
          rw [he1] at hrow hE
          have HG := Lib.hid (show diK ⟨znm, some ad2, zn', zc', es⟩ (i + 1) = diS znm (F, la, en) e by rw [← HST.out]; exact diK_at (z := ⟨znm, some ad2, zn', zc', es⟩) hle he1); clear he1 hmem
          have hfl2 : (fl ++ (S.zs.take j).flatMap diZ ++ F).length ≤ 100000 := by
            have := diK_len ⟨znm, some ad2, zn', zc', es⟩ i (Nat.le_of_lt hle)
            rw [HST.out] at this; dsimp only at this
            rw [List.length_append, List.length_append]; omega
          have xa := x.below ((Below.refl _ wr).alloc (Nat.le_refl _) (.cells e.C 56)); have ye := Blk.new wr 56 e.C; have ya := yz.alloc (.cells e.C 56); have be := b.alloc (Nat.le_trans x.ge (Nat.le_of_lt x.f.lt)) (.cells e.C 56)
          go_upto_region 8 with (first | (refine wpList_at_g rfl 56 _ rfl base _ e.C rfl _ hrow Tryd.underlying56 rfl (by kernel_rfl) ?_) | (refine wpList_store_new rfl 56 _ _ rfl rfl wr.heap.size e.C rfl rfl _ #[.int .i64 0, .int .u8 0, .int .i64 0, .string ⟨#[]⟩, .string ⟨#[]⟩, .bool false, .int .i64 0, .int .i64 0, .int .u8 0, .int .i64 0, .int .i64 0, .int .i64 0, .int .u8 0] wr rfl rfl rfl (by kernel_rfl) (by kernel_rfl) ?_))
          generalize wr.alloc (.cells e.C 56) = U at *
          obtain ⟨q2, hq2⟩ : ∃ q, wr.heap.size = q := ⟨_, rfl⟩
          simp only [hq2] at ye ⊢
          clear hq2 hrow x yz b
          cases h5 : e.en with
          | false =>
            have c5 : U.cell? ⟨q2, 5, none⟩ = some (.bool false) := by have := ye.cell 5; rw [← h5]; exact this
            have HG2 := Lib.hid (diS_0 (nm := znm) (F := F) (la := la) (en := en) h5); clear h5
            go_wp2_with fail
            go_roundw
            case rel => exact ⟨i + 1, v, F, la, en, by go_num, rfl, rfl, by omega, by rw [HG.out, HG2.out], xa, ya, be⟩
            case measure => simp [intOf]; omega
          | true =>
            have c5 : U.cell? ⟨q2, 5, none⟩ = some (.bool true) := by have := ye.cell 5; rw [← h5]; exact this
            have H5 := Lib.hid h5; clear h5
            have xb := xa.below ((Below.refl _ U).alloc (Nat.le_refl _) (.cells (utA e) 54)); have yu := Blk.new U 54 (utA e); have yb := ya.alloc (.cells (utA e) 54); have bu := be.alloc (Nat.le_trans xa.ge (Nat.le_of_lt xa.f.lt)) (.cells (utA e) 54)
            go_upto_region 10 with (first | (refine wpList_seg_g rfl 54 _ rfl q2 6 (utA e) rfl _ _ _ _ ye Tryd.underlying54 rfl (by kernel_rfl) (by rfl) ?_) | (refine wpList_store_new rfl 54 _ _ rfl rfl U.heap.size (utA e) rfl rfl _ #[.int .i64 0, .int .i64 0, .int .u8 0, .int .i64 0, .int .i64 0, .int .i64 0, .int .u8 0] U rfl rfl rfl (by kernel_rfl) (by kernel_rfl) ?_))
            generalize U.alloc (.cells (utA e) 54) = U1 at *
            obtain ⟨q3, hq3⟩ : ∃ q, U.heap.size = q := ⟨_, rfl⟩
            simp only [hq3] at yu ⊢
            clear hq3 xa ya be ye c5
            have c0 : U1.cell? ⟨q3, 0, none⟩ = some (.int .i64 e.uy) := yu.cell 0
            have c1 : U1.cell? ⟨q3, 1, none⟩ = some (.int .i64 e.um) := yu.cell 1
            have hTu : Tab U1 := hT.below hbase (ba.trans bu)
            have hno := nominal_any e.uy e.um e.uk e.un e.ud e.us e.uc U1 hTu hE.2.2.2.1.1
            have HV := Lib.hid (show nomV e.uy e.um e.uk e.un e.ud e.us e.uc = eV e from rfl)
            rw [show nomV e.uy e.um e.uk e.un e.ud e.us e.uc = eV e from rfl, show nomE e.uy e.um e.uk e.un e.ud e.us e.uc = eE e from rfl] at hno
            have hS0 := Lib.hid (fun h => diS_1 (nm := znm) (F := F) (la := la) (en := en) H5.out h)
            have hS2 := Lib.hid (fun h => diS_2 (nm := znm) (F := F) (la := la) (en := en) H5.out h)
            have hS3 := Lib.hid (fun h => diS_3 (nm := znm) (F := F) (la := la) (en := en) H5.out h)
            clear HV hE
            generalize eV e = tv at *
            generalize eE e = ev at *
            go_wp2_with (first | (refine wpList_seg_g rfl 49 _ rfl q3 2 #[.int .u8 e.uk, .int .i64 e.un, .int .i64 e.ud] rfl _ _ _ _ yu Tryd.underlying49 rfl (by kernel_rfl) (by rfl) ?_) | (refine wpList_seg_g rfl 52 _ rfl q3 5 #[.int .i64 e.us, .int .u8 e.uc] rfl _ _ _ _ yu Tryd.underlying52 rfl (by kernel_rfl) (by rfl) ?_))
            refine hno.mono ?_; rintro e0 U2 ⟨rfl, hb⟩
            have x2 := xb.below hb; have y2 := yb.below hb yb.lt; have b2 := bu.trans (hb.mono (Nat.le_trans xb.ge (Nat.le_of_lt xb.f.lt)))
            clear hno hb xb yb bu yu c0 c1 hTu
            have cz : U2.cell? ⟨q, 0, none⟩ = some (.string znm) := y2.cell 0
            by_cases hev : ev = 0
            · have hevb : (ev != 0) = false := by rw [hev]; rfl
              have HE0 := Lib.hid hev; clear hev
              cases en with
              | false =>
                have HG2 := Lib.hid (hS3.out HE0.out (fun h => by cases h.1)); clear hS0 hS2 hS3
                go_wp2_with fail
                go_roundw
                case rel => exact ⟨i + 1, v, F, tv, true, by go_num, rfl, rfl, by omega, by rw [HG.out, HG2.out], x2, y2, b2⟩
                case measure => simp [intOf]; omega
              | true =>
                by_cases hle2 : tv ≤ la
                · have hd : decide (tv ≤ la) = true := decide_eq_true hle2
                  have HG2 := Lib.hid (hS2.out HE0.out rfl hle2); clear hS0 hS2 hS3
                  go_wp2_with fail
                  refine (put_any base U2 p _ _ v ⟨10, znm⟩ x2 hfl2).mono ?_; rintro e0 W2 ⟨rfl, v2, x3, hch, hb2⟩
                  have y3 : Blk W2 q 59 #[.string znm, .slice (some ad2) zn' zc'] := Blk.chg y2 hch x2.f x2.o (by decide) (by decide)
                  have b3 := b2.trans hb2
                  clear x2 y2 hch hb2 b2 cz
                  go_wp2_with fail
                  go_roundw
                  case rel => exact ⟨i + 1, v2, F ++ [⟨10, znm⟩], tv, true, by go_num, rfl, rfl, by omega, by rw [HG.out, HG2.out], by rw [← List.append_assoc]; exact x3, y3, b3⟩
                  case measure => simp [intOf]; omega
                · have hd : decide (tv ≤ la) = false := decide_eq_false hle2
                  have HG2 := Lib.hid (hS3.out HE0.out (fun h => hle2 h.2)); clear hS0 hS2 hS3
                  go_wp2_with fail
                  go_roundw
                  case rel => exact ⟨i + 1, v, F, tv, true, by go_num, rfl, rfl, by omega, by rw [HG.out, HG2.out], x2, y2, b2⟩
                  case measure => simp [intOf]; omega
            · have hevb : (ev != 0) = true := by rw [bne_iff_ne]; exact hev
              have HG2 := Lib.hid (hS0.out hev); clear hev hS0 hS2 hS3
              go_wp2_with fail
              refine (put_any base U2 p _ _ v ⟨10, znm⟩ x2 hfl2).mono ?_; rintro e0 W2 ⟨rfl, v2, x3, hch, hb2⟩
              have y3 : Blk W2 q 59 #[.string znm, .slice (some ad2) zn' zc'] := Blk.chg y2 hch x2.f x2.o (by decide) (by decide)
              have b3 := b2.trans hb2
              clear x2 y2 hch hb2 b2 cz
              go_wp2_with fail
              go_roundw
              case rel => exact ⟨i + 1, v2, F ++ [⟨10, znm⟩], la, en, by go_num, rfl, rfl, by omega, by rw [HG.out, HG2.out], by rw [← List.append_assoc]; exact x3, y3, b3⟩
              case measure => simp [intOf]; omega
        · obtain rfl : i = zn' := by omega
          have hltI2 : ¬ (i : Int) < (i : Int) := by omega
          have b2 := ba.trans b
          clear b ba
          have HF2 := Lib.hid (show diZ ⟨znm, zA', i, zc', es⟩ = F by unfold diZ; show (diK _ es.length).1 = F; rw [hEl, HST.out])
          go_wp2_with fail
          go_roundw
          case rel => exact ⟨j + 1, v, by go_num, by omega, by rw [HF.out, HF2.out, ← List.append_assoc]; exact x, b2⟩
          case measure => simp [intOf]; omega
    · obtain rfl : j = zn := by omega
      have hltI : ¬ (j : Int) < (j : Int) := by omega
      rw [take_all hS.z.len] at x
      go_wp2_with fail
      go_end0
      exact ⟨rfl, v, x, b⟩
end Go.Proofs.YtnoaeejdcdeanaaDoor.Va
