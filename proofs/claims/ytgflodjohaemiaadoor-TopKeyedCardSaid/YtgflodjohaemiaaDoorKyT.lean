/-
  CHARTS: TOP: TopKeyed: walked.
-/
import Derived.Test.YtgflodjohaemiaaDoorKyS
namespace Go.Proofs.YtgflodjohaemiaaDoor.Ky
open Go.ChangeShapes Go.WideShapes Go.ChangeAt Go.RowKit Go.Maps
open Go.Proofs.YtgflodjohaemiaaDoor
open Go.Proofs.YtgflodjohaemiaaDoor.Wd
open Go.Proofs.YtgflodjohaemiaaDoor.Sl
open Go.Proofs.YtgflodjohaemiaaDoor.Mp (Smap wpList_look_yes wpList_look_no wpList_mput mput mput_same mput_other kS hR)
open Go.Proofs.YtgflodjohaemiaaDoor.Mr (Rmap rk row_key rowV)
open Go.Proofs.YtgflodjohaemiaaDoor.Utf (L)
set_option linter.unusedVariables false
set_option linter.unusedSimpArgs false
/-- what the hive holds for a key -/
def kct (l : List En) (k : ByteArray) : ByteArray × Nat × List Vl := (zp ++ k, 1, [⟨sZone, dfZ l k⟩])
theorem zp_inj {a b : ByteArray} (h : L (zp ++ a) = L (zp ++ b)) : L a = L b := by
  rw [L_add, L_add] at h; exact List.append_cancel_left h
theorem Sls.get {hs : List Hk} {ks : List ByteArray} {l : List En} {j : Nat} (h : hs.map Hk.ct = ks.map (kct l)) (hj : j < ks.length) : (hs.getD j Hk.nil).ct = kct l (ks.getD j ByteArray.empty) := by
  have hl : hs.length = ks.length := by simpa using congrArg List.length h
  have h1 := congrArg (fun x => x[j]?) h
  simp only [List.getElem?_map] at h1
  rw [getD_at Hk.nil (by omega), getD_at ByteArray.empty hj] at h1
  injection h1
theorem ct_paths {hs : List Hk} {ks : List ByteArray} {l : List En} (h : hs.map Hk.ct = ks.map (kct l)) (hn : (ks.map L).Nodup) : (hs.map fun k => L k.p).Nodup := by
  have e : (hs.map fun k => L k.p) = ks.map fun k => L (zp ++ k) := by
    have := congrArg (List.map fun x : ByteArray × Nat × List Vl => L x.1) h
    rw [List.map_map, List.map_map] at this
    exact this
  rw [e]
  rw [show (ks.map fun k => L (zp ++ k)) = (ks.map L).map (fun x => L zp ++ x) from by rw [List.map_map]; exact List.map_congr_left fun k _ => L_add zp k]
  exact List.Pairwise.map _ (fun a b hab e => hab (List.append_cancel_left e)) hn
theorem ct_find {hs : List Hk} {ks : List ByteArray} {l : List En} {j : Nat} (h : hs.map Hk.ct = ks.map (kct l)) (hn : (ks.map L).Nodup) (hj : j < ks.length) : fiV (plP (zp ++ ks.getD j ByteArray.empty)) hs = (j : Int) ∧ (hs.getD j Hk.nil).n = 1 ∧ (hs.getD j Hk.nil).vs = [⟨sZone, dfZ l (ks.getD j ByteArray.empty)⟩] := by
  have hl : hs.length = ks.length := by simpa using congrArg List.length h
  have e := fun i (hi : i < ks.length) => Sls.get h hi
  refine ⟨fi_yes (d := Hk.nil) (by omega) (fun i hi => ?_) ?_, congrArg (fun x => x.2.1) (e j hj), congrArg (fun x => x.2.2) (e j hj)⟩
  · have h1 : (hs.getD i Hk.nil).p = zp ++ ks.getD i ByteArray.empty := congrArg Prod.fst (e i (by omega))
    unfold plP
    rw [h1, decide_eq_false_iff_not]
    intro h2
    have h3 := zp_inj h2
    have h4 := List.pairwise_iff_getElem.1 hn i j (by simp; omega) (by simpa using hj) hi
    apply h4
    simp only [List.getElem_map]
    rw [List.getD_eq_getElem?_getD, List.getD_eq_getElem?_getD, List.getElem?_eq_getElem (by omega), List.getElem?_eq_getElem hj] at h3
    exact h3
  · have h1 : (hs.getD j Hk.nil).p = zp ++ ks.getD j ByteArray.empty := congrArg Prod.fst (e j hj)
    unfold plP
    rw [h1]; exact decide_eq_true rfl
set_option maxRecDepth 100000 in
set_option maxHeartbeats 25600000 in
theorem keyed_any (Ad : Option Addr) (n c B : Nat) (l : List En) (w : World) (hR : ChR w B Ad n c l) (hB : B ≤ w.heap.size) (hM : MaxC w) : Calls Tryd.prog 3 #[.slice Ad n c] w fun x w' => x = .returned (.bool true) ∧ Below w.heap.size w w' := by
  have hlt0 := hM.lt
  have hbe := begins_any w hM
  have hsm := fun W (b : Below w.heap.size w W) => small_any Ad n c B l W (hR.below (b.mono hB)) (Nat.le_trans hB b.size)
  have hch := fun W (b : Below w.heap.size w W) => chk_any Ad n c B l W (hR.below (b.mono hB)) (Nat.le_trans hB b.size)
  go_enter Tryd.func3, Tryd.ntmps3
  go_wp2_with fail
  refine hbe.mono ?_; rintro x w1 ⟨rfl, b1⟩
  go_wp2_with fail
  refine (hsm _ b1).mono ?_; rintro x w2 ⟨h01, b2⟩
  have b2 := bcl b1 b2
  rcases h01 with rfl | rfl
  · go_wp2_with fail
    go_ret
    exact ⟨rfl, b2⟩
  go_wp2_with fail
  refine (hch _ b2).mono ?_; rintro x w3 ⟨rfl, b3⟩
  have b3 := bcl b2 b3
  by_cases hC : chE l = 0
  rotate_left
  · have hCI : ((chE l : Nat) : Int) ≠ 0 := by omega
    have hCb : (((chE l : Nat) : Int) != 0) = true := by rw [bne_iff_ne]; exact hCI
    clear hsm hch hbe
    generalize ((chE l : Nat) : Int) = cv at *
    go_wp2_with fail
    go_ret
    exact ⟨rfl, b3⟩
  obtain ⟨hn4, -, -⟩ := ch0 hC
  have hlen := hR.s.len
  have hkl := ks_len l
  have hkn := ks_nodup l
  have hky := fun W (b : Below w.heap.size w W) => keys_any Ad n c B l W (hR.below (b.mono hB)) (Nat.le_trans hB b.size) (by omega)
  have HKA := Lib.hid (fun k hk => key_all hR hC (k := k) hk)
  have HDF := Lib.hid (fun k (hk : k ∈ ksF l) W (b : Below w.heap.size w W) => (by
    obtain ⟨i, h1, h2, h3⟩ := (key_all hR hC hk).2.2.2
    exact def_any Ad n c B i l k W (hR.below (b.mono hB)) (Nat.le_trans hB b.size) hC h1 h2 h3 : Calls Tryd.prog 8 #[.slice Ad n c, .string k] W fun x w' => x = .returned (.tuple #[.string (dfZ l k), .int .i64 0]) ∧ Below W.heap.size W w'))
  rw [hC]
  clear hsm hch hbe
  have b4 := bal b3 (.cells #[.slice none 0 0] 29)
  have x4 := Blk.new w3 29 #[.slice none 0 0]
  go_upto_region 6 with fail
  obtain ⟨q, hq⟩ : ∃ q, w3.heap.size = q := ⟨_, rfl⟩
  have hwq : w.heap.size ≤ q := by have := b3.size; omega
  rw [hq] at x4 ⊢
  clear hq
  generalize w3.alloc (.cells #[.slice none 0 0] 29) = W4 at *
  have hkk := hky W4 b4
  have hq4 := x4.lt
  clear hky b3 b2 b1
  go_wp2_with fail
  refine hkk.mono ?_; rintro x w5 ⟨AK, cK, rfl, hKS, hAK, b5⟩
  have hAKq : ∀ a, AK = some a → a.block ≠ q := fun a e h => by have := hAK a e; omega
  have x5 := x4.below b5 hq4
  have b5 := bcl b4 b5
  clear hkk x4 b4 hq4
  obtain ⟨ks, hks⟩ : ∃ ks, ksF l = ks := ⟨_, rfl⟩
  rw [hks] at hKS hkl hkn HKA HDF
  rw [hks]
  obtain ⟨N, hN⟩ : ∃ N, ks.length = N := ⟨_, rfl⟩
  rw [hN] at hKS hkl ⊢
  have hN4 : N ≤ 4096 := by omega
  have HKS := Lib.hid hks; clear hks
  go_wp2_with fail
  go_loopw [33] (fun i wr => ∃ (j : Nat) (A2 : Option Addr) (n2 c2 : Nat) (hs : List Hk), i = .int .i64 (j : Int) ∧ j ≤ N ∧ Blk wr q 29 #[.slice A2 n2 c2] ∧ HvR wr wr.heap.size A2 n2 hs ∧ hs.map Hk.ct = (ks.take j).map (kct l) ∧ (0 < n2 → ∀ a, A2 = some a → ¬ a.block = q) ∧ (∀ k ∈ hs, 0 < k.n → ∀ a, k.A = some a → ¬ a.block = q) ∧ Sls stC 1 wr wr.heap.size AK N ks ∧ Below w.heap.size w wr) (fun i _ => N - (intOf i).toNat)
  case atStart => exact ⟨0, none, 0, 0, [], rfl, Nat.zero_le _, x5, ⟨Sls.none_, fun k hk => (by cases hk)⟩, rfl, fun h => absurd h (by decide), fun k hk => (by cases hk), hKS, b5⟩
  case round =>
    clear x5
    obtain ⟨j, A2, n2, c2, hs, rfl, hj, xq, hV, hct, hqA, hqk, hKr, b⟩ := hrel
    have hnh : hs.length = j := by have := congrArg List.length hct; simp at this; omega
    obtain rfl : n2 = j := by have := hV.s.len; omega
    by_cases hlt : n2 < N
    · have hltI : (n2 : Int) < (N : Int) := by omega
      obtain ⟨ad, eA, hrow⟩ := hKr.row (fun _ => rfl) ByteArray.empty hlt
      have hmem := getD_mem (L := ks) ByteArray.empty (k := n2) (by omega)
      obtain ⟨⟨hpo, -, -⟩, hk64, hvo, -⟩ := HKA.out _ hmem
      have hdf := HDF.out _ hmem wr b
      have HTK := Lib.hid (getD_take ByteArray.empty (L := ks) (k := n2) (by omega))
      have hnw := nodup_at (l := ks.map L) (k := n2) hkn (by rw [List.getElem?_map, getD_at ByteArray.empty (by omega)]; rfl)
      generalize ks.getD n2 ByteArray.empty = k at *
      rw [eA]
      have ck : wr.cell? (ad.add n2) = some (.string k) := by have := row_c0 hrow (v := .string k) rfl; rwa [Nat.mul_one] at this
      go_wp2_with fail
      refine hdf.mono ?_; rintro x w6 ⟨rfl, b6⟩
      have x6 := xq.below b6 xq.lt
      have hV6 := (hV.below b6).more b6.size
      have hK6 := (hKr.below b6).more b6.size
      have hqlt := xq.lt
      have s6 := b6.size
      have b6 := bcl b b6
      have hv7 : HvR (w6.alloc (.cells #[.string sZone, .int .u8 1, .string (dfZ l k), .int .u32 0, .string ⟨#[]⟩] 39)) (w6.alloc (.cells #[.string sZone, .int .u8 1, .string (dfZ l k), .int .u32 0, .string ⟨#[]⟩] 39)).heap.size A2 n2 hs := (hV6.below (bal (Below.refl _ w6) _)).more (bal (Below.refl _ w6) _).size
      have r7 := Sls.of_blk (f := Vl.C) (sz := 5) (L := [⟨sZone, dfZ l k⟩]) (fun _ => rfl) (Blk.new w6 39 #[.string sZone, .int .u8 1, .string (dfZ l k), .int .u32 0, .string ⟨#[]⟩]) (by simp [flat])
      have x7 := x6.alloc (.cells #[.string sZone, .int .u8 1, .string (dfZ l k), .int .u32 0, .string ⟨#[]⟩] 39)
      have hK7 := (hK6.below (bal (Below.refl _ w6) (.cells #[.string sZone, .int .u8 1, .string (dfZ l k), .int .u32 0, .string ⟨#[]⟩] 39))).more (bal (Below.refl _ w6) (.cells #[.string sZone, .int .u8 1, .string (dfZ l k), .int .u32 0, .string ⟨#[]⟩] 39)).size
      have b7 := bal b6 (.cells #[.string sZone, .int .u8 1, .string (dfZ l k), .int .u32 0, .string ⟨#[]⟩] 39)
      have hgd : ∀ k' ∈ hs, CtGd k'.ct := mem_ct hct (fun x hx => by
        obtain ⟨k0, hk0, rfl⟩ := List.mem_map.1 hx
        obtain ⟨⟨p1, -, -⟩, -, p2, -⟩ := HKA.out k0 (List.mem_of_mem_take hk0)
        exact ⟨p1, Nat.le_refl _, fun v hv => by rw [List.mem_singleton.1 hv]; exact p2⟩)
      have hpu := put_any A2 n2 c2 _ hs (zp ++ k) (some ⟨w6.heap.size, 0, none⟩) 1 1 [⟨sZone, dfZ l k⟩] (fun b => b = q) (w6.alloc (.cells #[.string sZone, .int .u8 1, .string (dfZ l k), .int .u32 0, .string ⟨#[]⟩] 39)) (fun b hb => by rw [size_al]; omega) hqk (hM.below b7 hlt0) hv7 (Nat.le_refl _) (by omega) hgd
        (ct_paths hct (hkn.sublist (List.Sublist.map _ (List.take_sublist _ _)))) hpo (fun k' hk' e => by
          have h1 : k'.ct ∈ (ks.take n2).map (kct l) := by rw [← hct]; exact List.mem_map.2 ⟨k', hk', rfl⟩
          obtain ⟨k0, hk0, e0⟩ := List.mem_map.1 h1
          have e1 : zp ++ k0 = k'.p := congrArg Prod.fst e0
          rw [← e1] at e
          exact hnw (by rw [← List.map_take]; exact List.mem_map.2 ⟨k0, hk0, zp_inj e⟩)) r7 (Nat.le_refl _) (fun v hv => by rw [List.mem_singleton.1 hv]; exact hvo)
      clear hdf hgd hv7 r7 hV6
      have hk1 : ¬ 9223372036854775807 < 6 + k.size := by omega
      have hk2 : 6 + k.size ≤ 9223372036854775807 := by omega
      have c6 : w6.cell? ⟨q, 0, none⟩ = some (.slice A2 n2 c2) := x6.cell 0
      go_wp2_with (refine wpList_row_g rfl 29 _ rfl _ rfl _ _ _ _ x6 Tryd.underlying29 rfl (by kernel_rfl) ?_)
      refine hpu.mono ?_; rintro x w8 ⟨⟨A3, n3, c3, hs3, rfl, hV8, hct3, hA3, hk3⟩, b8⟩
      obtain rfl : n3 = n2 + 1 := by
        have h1 := congrArg List.length hct3
        have := hV8.s.len
        simp at h1; omega
      have x8 := x7.below b8 x7.lt
      have s8 := b8.size
      have hK8 := (hK7.below b8).more b8.size
      have b8 := bcl b7 b8
      have x9 := x8.alloc (.cells #[.slice A3 (n2 + 1) c3] 29); have z9 := Blk.new w8 29 #[.slice A3 (n2 + 1) c3]; have b9 := bal b8 (.cells #[.slice A3 (n2 + 1) c3] 29)
      have bW := bal (Below.refl _ w8) (.cells #[.slice A3 (n2 + 1) c3] 29)
      have hV9 := (hV8.below bW).more bW.size
      have hK9 := (hK8.below bW).more bW.size
      have HC3 := Lib.hid (show hs3.map Hk.ct = (ks.take (n2 + 1)).map (kct l) from by rw [hct3, hct, HTK.out, List.map_append]; rfl)
      clear hpu x7 b7 hV8 hct3 hct
      go_upto_region 12 with (refine wpList_store_new rfl 29 _ _ rfl rfl w8.heap.size #[.slice A3 (n2 + 1) c3] rfl rfl _ #[.slice none 0 0] w8 rfl rfl rfl (by kernel_rfl) (by kernel_rfl) ?_)
      generalize w8.alloc (.cells #[.slice A3 (n2 + 1) c3] 29) = W9 at *
      have hs10 := bW.size
      generalize w8.heap.size = g9 at *
      have HFV := Lib.hid (show HvR (W9.setRow q #[.slice A3 (n2 + 1) c3]) (W9.setRow q #[.slice A3 (n2 + 1) c3]).heap.size A3 (n2 + 1) hs3 from by
        have e : (W9.setRow q #[.slice A3 (n2 + 1) c3]).heap.size = W9.heap.size := by simp [World.setRow]
        rw [e]
        exact ⟨sls_away (g := q) hV9.s (fun _ a e => hA3 a e) (by decide) (fun b _ hb => setRow_other W9 q b _ hb), fun k' hk' => sls_away (g := q) (hV9.m k' hk') (hk3 k' hk') (by decide) (fun b _ hb => setRow_other W9 q b _ hb)⟩)
      have HFK := Lib.hid (show Sls stC 1 (W9.setRow q #[.slice A3 (n2 + 1) c3]) (W9.setRow q #[.slice A3 (n2 + 1) c3]).heap.size AK N ks from by
        have e : (W9.setRow q #[.slice A3 (n2 + 1) c3]).heap.size = W9.heap.size := by simp [World.setRow]
        rw [e]
        exact sls_away (g := q) hK9 (fun _ a e => hAKq a e) (by decide) (fun b _ hb => setRow_other W9 q b _ hb))
      have bF : Below w.heap.size w (W9.setRow q #[.slice A3 (n2 + 1) c3]) := below_row b9 hwq _
      have xF := x9.row #[.slice A3 (n2 + 1) c3]
      go_upto_region 15 with (first | (refine wpList_row_g rfl 29 _ rfl _ rfl _ _ _ _ z9 Tryd.underlying29 rfl (by kernel_rfl) ?_) | (refine wpList_store_g rfl 29 _ _ rfl rfl q 0 #[.slice A3 (n2 + 1) c3] #[.slice A3 (n2 + 1) c3] rfl rfl _ _ x9 (by show 0 + 1 ≤ 1; decide) (by kernel_rfl) (by kernel_rfl) (by kernel_rfl) ?_))
      go_wp2_with fail
      go_roundw
      case rel => exact ⟨n2 + 1, A3, n2 + 1, c3, hs3, by go_num, by omega, xF, HFV.out, HC3.out, fun _ a e => hA3 a e, hk3, by rw [← eA]; exact HFK.out, bF⟩
      case measure => simp [intOf]; omega
    · obtain rfl : n2 = N := by omega
      have hltI : ¬ (n2 : Int) < (n2 : Int) := by omega
      rw [List.take_of_length_le (by omega)] at hct
      have hpt : ∀ j, j < n2 → L (hs.getD j Hk.nil).p = L sZones ++ 92 :: L (ks.getD j ByteArray.empty) ∧ L (ks.getD j ByteArray.empty) ≠ [] ∧ (92 : UInt8) ∉ L (ks.getD j ByteArray.empty) := fun j hj => by
        have h1 := Sls.get hct (show j < ks.length by omega)
        have h2 : (hs.getD j Hk.nil).p = zp ++ ks.getD j ByteArray.empty := congrArg Prod.fst h1
        obtain ⟨⟨-, p2, p3⟩, -⟩ := HKA.out _ (getD_mem (L := ks) ByteArray.empty (k := j) (by omega))
        rw [h2, zp_L]; exact ⟨rfl, p2, p3⟩
      have hun := under_any A2 n2 c2 wr.heap.size hs sZones ks wr hV (Nat.le_refl _) hN4 (by decide) hN hpt
      go_wp2_with (refine wpList_row_g rfl 29 _ rfl _ rfl _ _ _ _ xq Tryd.underlying29 rfl (by kernel_rfl) ?_)
      refine hun.mono ?_; rintro x w6 ⟨⟨A6, c6, hx6, hU⟩, b6⟩
      rw [hN] at hx6 hU; subst hx6
      have x6 := xq.below b6 xq.lt
      have hV6 := (hV.below b6).more b6.size
      have hK6 := (hKr.below b6).more b6.size
      have b7 := bcl b b6
      have htx := texts_eq A6 AK n2 c6 cK ks w6 hU hK6 (by unfold maxLen; omega)
      clear hun xq hV hKr b b6
      go_wp2_with fail
      refine htx.mono ?_; rintro x w8 ⟨rfl, b8⟩
      have x8 := x6.below b8 x6.lt
      have hV8 := (hV6.below b8).more b8.size
      have hK8 := (hK6.below b8).more b8.size
      have b9 := bcl b7 b8
      have hgd : ∀ k' ∈ hs, HkGd k' := fun k' hk' => HkGd.of_ct (mem_ct hct (fun x hx => by
        obtain ⟨k0, hk0, rfl⟩ := List.mem_map.1 hx
        obtain ⟨⟨p1, -, -⟩, -, p2, -⟩ := HKA.out k0 hk0
        exact ⟨p1, Nat.le_refl _, fun v hv => by rw [List.mem_singleton.1 hv]; exact p2⟩) k' hk')
      have hck := hcheck_any A2 n2 c2 _ hs w8 (hM.below b9 hlt0) hV8 (Nat.le_refl _) hN4 hgd (ct_paths hct hkn)
      clear htx x6 hV6 hK6 b7 b8 hgd
      go_wp2_with (refine wpList_row_g rfl 29 _ rfl _ rfl _ _ _ _ x8 Tryd.underlying29 rfl (by kernel_rfl) ?_)
      refine hck.mono ?_; rintro x w10 ⟨rfl, b10⟩
      have xA := x8.below b10 x8.lt
      have hVA := (hV8.below b10).more b10.size
      have hKA := (hK8.below b10).more b10.size
      have bA := bcl b9 b10
      clear hck x8 hV8 hK8 b9 b10
      have HFI := Lib.hid (fun j (hj : j < n2) => ct_find hct hkn (show j < ks.length by omega))
      have hs10 := bA.size
      clear hpt hct hkn hU hlt hltI hj hKS hqA hqk hAK hAKq hnh
      go_wp2_with fail
      go_loopw [73] (fun i wr => ∃ (j : Nat), i = .int .i64 (j : Int) ∧ j ≤ n2 ∧ Below w10.heap.size w10 wr) (fun i _ => n2 - (intOf i).toNat)
      case atStart => exact ⟨0, rfl, Nat.zero_le _, Below.refl _ _⟩
      case round =>
        obtain ⟨j, rfl, hj, bb⟩ := hrel
        by_cases hlt : j < n2
        · have hltI : (j : Int) < (n2 : Int) := by omega
          have xB := xA.below bb xA.lt
          have hVB := (hVA.below bb).more bb.size
          obtain ⟨ad, eA, hrow⟩ := ((hKA.below bb).more bb.size).row (fun _ => rfl) ByteArray.empty hlt
          have hmem := getD_mem (L := ks) ByteArray.empty (k := j) (by omega)
          obtain ⟨⟨hpo, -, -⟩, hk64, hvo, -⟩ := HKA.out _ hmem
          have bB := bcl bA bb
          have hdf := HDF.out _ hmem wr bB
          obtain ⟨hf1, hf2, hf3⟩ := HFI.out j hlt
          have hfd := fun W (b : Below wr.heap.size wr W) => find_key A2 n2 c2 _ j hs (zp ++ ks.getD j ByteArray.empty) W (hVB.below b) b.size hN4 hlt (by omega) hf1
          clear hf1
          generalize hs.getD j Hk.nil = hk at *
          generalize ks.getD j ByteArray.empty = k at *
          rw [eA]
          have ck : wr.cell? (ad.add j) = some (.string k) := by have := row_c0 hrow (v := .string k) rfl; rwa [Nat.mul_one] at this
          clear hrow hVB
          have hk1 : ¬ 9223372036854775807 < 6 + k.size := by omega
          have hk2 : 6 + k.size ≤ 9223372036854775807 := by omega
          go_wp2_with fail
          refine hdf.mono ?_; rintro x w11 ⟨rfl, b11⟩
          have xC := xB.below b11 xB.lt
          have hfc := hfd w11 b11
          have bC := bcl bb b11
          clear hdf hfd xB bB ck b11
          go_wp2_with (refine wpList_row_g rfl 29 _ rfl _ rfl _ _ _ _ xC Tryd.underlying29 rfl (by kernel_rfl) ?_)
          refine hfc.mono ?_; rintro x w12 ⟨⟨A3, c3, hx, hS3⟩, b12⟩
          rw [hf2] at hx hS3; rw [hf3] at hS3; subst hx
          have bD := bcl bC b12
          have x13 := Blk.new w12 45 #[.string (zp ++ k), .slice A3 1 c3]
          have b13 := bal bD (.cells #[.string (zp ++ k), .slice A3 1 c3] 45)
          have bW := bal (Below.refl _ w12) (.cells #[.string (zp ++ k), .slice A3 1 c3] 45)
          have hS4 := (hS3.below bW).more bW.size
          clear hfc xC bC hS3 b12 hf2 hf3 bW bD
          go_upto_region 23 with (refine wpList_store_new rfl 45 _ _ rfl rfl w12.heap.size #[.string (zp ++ k), .slice A3 1 c3] rfl rfl _ #[.string ⟨#[]⟩, .slice none 0 0] w12 rfl rfl rfl (by kernel_rfl) (by kernel_rfl) ?_)
          generalize w12.alloc (.cells #[.string (zp ++ k), .slice A3 1 c3] 45) = W13 at *
          generalize w12.heap.size = g13 at *
          have hgt := get_any A3 c3 _ (zp ++ k) ⟨sZone, dfZ l k⟩ W13 hS4 (Nat.le_refl _)
          generalize dfZ l k = dz at *
          go_wp2_with (refine wpList_row_g rfl 45 _ rfl _ rfl _ _ _ _ x13 Tryd.underlying45 rfl (by kernel_rfl) ?_)
          refine hgt.mono ?_; rintro x w14 ⟨hx, b14⟩
          have hx : x = .returned (.tuple #[.agg #[.string sZone, .int .u8 1, .string dz, .int .u32 0, .string ⟨#[]⟩], .bool true]) := hx
          subst hx
          have bE := bcl b13 b14
          have x15 := Blk.new w14 39 #[.string sZone, .int .u8 1, .string dz, .int .u32 0, .string ⟨#[]⟩]
          have b15 := bal bE (.cells #[.string sZone, .int .u8 1, .string dz, .int .u32 0, .string ⟨#[]⟩] 39)
          clear hgt x13 b13 hS4 b14 bE
          go_upto_region 24 with (refine wpList_store_new rfl 39 _ _ rfl rfl w14.heap.size #[.string sZone, .int .u8 1, .string dz, .int .u32 0, .string ⟨#[]⟩] rfl rfl _ #[.string ⟨#[]⟩, .int .u8 0, .string ⟨#[]⟩, .int .u32 0, .string ⟨#[]⟩] w14 rfl rfl rfl (by kernel_rfl) (by kernel_rfl) ?_)
          generalize w14.alloc (.cells #[.string sZone, .int .u8 1, .string dz, .int .u32 0, .string ⟨#[]⟩] 39) = W15 at *
          generalize w14.heap.size = g15 at *
          have c15 : W15.cell? ⟨g15, 2, none⟩ = some (.string dz) := x15.cell 2
          have e1 : (dz.toList == dz.toList) = true := beq_self_eq_true _
          have e2 : (dz.toList != dz.toList) = false := by unfold bne; rw [e1]; rfl
          clear x15
          go_wp2_with fail
          go_roundw
          case rel => exact ⟨j + 1, by go_num, by omega, b15⟩
          case measure => simp [intOf]; omega
        · obtain rfl : j = n2 := by omega
          have hltI : ¬ (j : Int) < (j : Int) := by omega
          go_wp2_with fail
          go_ret
          exact ⟨rfl, bcl bA bb⟩
end Go.Proofs.YtgflodjohaemiaaDoor.Ky
