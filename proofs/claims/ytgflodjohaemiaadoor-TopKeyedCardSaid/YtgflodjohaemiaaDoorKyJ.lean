/-
  CHARTS: HIVES: checkKey, Check: walked.
-/
import Derived.Test.YtgflodjohaemiaaDoorKyI
namespace Go.Proofs.YtgflodjohaemiaaDoor.Ky
open Go.ChangeShapes Go.WideShapes Go.ChangeAt Go.RowKit Go.Maps
open Go.Proofs.YtgflodjohaemiaaDoor
open Go.Proofs.YtgflodjohaemiaaDoor.Wd
open Go.Proofs.YtgflodjohaemiaaDoor.Sl
open Go.Proofs.YtgflodjohaemiaaDoor.Mp (Smap wpList_look_yes wpList_look_no wpList_mput mput mput_same mput_other kS hR)
open Go.Proofs.YtgflodjohaemiaaDoor.Mr (Rmap rk row_key rowV)
open Go.Proofs.YtgflodjohaemiaaDoor.Utf (L)
set_option linter.unusedVariables false
set_option linter.unusedSimpArgs false
/-- a hive's key -/
structure Hk where
  p : ByteArray
  A : Option Addr
  n : Nat
  c : Nat
  vs : List Vl
abbrev Hk.C (k : Hk) : Array Value := #[.string k.p, .slice k.A k.n k.c]
abbrev Hk.nil : Hk := ⟨ByteArray.empty, none, 0, 0, []⟩
abbrev HkM (w : World) (B : Nat) (k : Hk) : Prop := Sls Vl.C 5 w B k.A k.n k.vs
structure HkGd (k : Hk) : Prop where
  p : PathOk k.p
  n : k.n ≤ 1
  v : ∀ v ∈ k.vs, VlOk v
structure HvR (w : World) (B : Nat) (A : Option Addr) (n : Nat) (hs : List Hk) : Prop where
  s : Sls Hk.C 2 w B A n hs
  m : ∀ k ∈ hs, HkM w B k
theorem HvR.below {w w' : World} {B n : Nat} {A : Option Addr} {hs : List Hk} (h : HvR w B A n hs) (hb : Below B w w') : HvR w' B A n hs := ⟨h.s.below hb, fun k hk => (h.m k hk).below hb⟩
theorem HvR.more {w : World} {B B' n : Nat} {A : Option Addr} {hs : List Hk} (h : HvR w B A n hs) (hb : B ≤ B') : HvR w B' A n hs := ⟨h.s.more hb, fun k hk => (h.m k hk).more hb⟩
set_option maxRecDepth 100000 in
set_option maxHeartbeats 12800000 in
theorem checkKey_any (k : Hk) (B : Nat) (w : World) (hM : MaxC w) (hk : HkM w B k) (hB : B ≤ w.heap.size) (h : HkGd k) : Calls Tryd.prog 28 #[.agg k.C] w fun x w' => x = .returned (.bool true) ∧ Below w.heap.size w w' := by
  obtain ⟨hp, h1, hv⟩ := h
  have hlen := hk.len
  have hmk := fun W => run_makeMap_hint (P := Tryd.prog) 61 9 62 .i64 (k.n : Int) Tryd.underlying61 W
  have hI : ¬ (512 : Int) < (k.n : Int) := by omega
  have hlt0 := hM.lt
  have b0 := bal (Below.refl _ w) (.cells k.C 45); have x0 := Blk.new w 45 k.C
  have hpp := fun W (b : Below w.heap.size w W) => path_any k.p W (hM.below b hlt0) hp
  go_enter Tryd.func28, Tryd.ntmps28
  go_upto_region 1 with fail
  have hs0 := size_al w (.cells k.C 45)
  generalize w.alloc (.cells k.C 45) = V at *
  obtain ⟨q, hq0⟩ : ∃ q, w.heap.size = q := ⟨_, rfl⟩
  have x1 : Blk V q 45 k.C := by rw [← hq0]; exact x0
  have hqw : w.heap.size ≤ q := Nat.le_of_eq hq0
  rw [hq0]
  have hqV : q < V.heap.size := x1.lt
  clear x0 hq0
  have c0 : V.cell? ⟨q, 0, none⟩ = some (.string k.p) := x1.cell 0
  go_wp2_with fail
  refine (hpp _ b0).mono ?_; rintro x w1 ⟨rfl, b1⟩
  have x2 := x1.below b1 hqV
  have c1 : w1.cell? ⟨q, 1, none⟩ = some (.slice k.A k.n k.c) := x2.cell 1
  have b2 := bcl b0 b1
  have hq1 := x2.lt
  clear hpp x1 b1 b0 c0 hqV
  have m3 := Mp.Smap.made w1 Tryd.prog 9
  have b3 := bal b2 (.map #[] 0); have x3 := x2.alloc (.map #[] 0)
  go_upto_region 4 with fail
  clear x2 b2 c1 hmk
  generalize w1.alloc (.map #[] 0) = W at *
  obtain ⟨mb, hmb⟩ : ∃ g, w1.heap.size = g := ⟨_, rfl⟩
  rw [hmb] at m3 hq1 ⊢
  clear hmb
  have hmbw : w.heap.size ≤ mb := by omega
  have c1 : W.cell? ⟨q, 1, none⟩ = some (.slice k.A k.n k.c) := x3.cell 1
  go_upto_region 5 with fail
  go_loopw [25] (fun i wr => ∃ (j : Nat) (m : Mp.Key → Option Value), i = .int .i64 (j : Int) ∧ j ≤ k.n ∧ (j = 0 → ∀ x, m x = none) ∧ Smap wr Tryd.prog 9 mb j m ∧ Below w.heap.size w wr) (fun i _ => k.n - (intOf i).toNat)
  case atStart => exact ⟨0, fun _ => none, rfl, Nat.zero_le _, fun _ _ => rfl, m3, b3⟩
  case round =>
    clear m3 b3 c1 x3
    obtain ⟨j, m, rfl, hj, hm0, hMp, b⟩ := hrel
    have HM0 := Lib.hid hm0; clear hm0
    by_cases hlt : j < k.n
    · have hltI : (j : Int) < (k.n : Int) := by omega
      have hkl : j < k.vs.length := by omega
      obtain ⟨ad, eA, hrow⟩ := (hk.below (b.mono hB)).row (fun _ => rfl) Vl.nil hlt
      have hvo := hv _ (getD_mem (L := k.vs) Vl.nil hkl)
      obtain ⟨v, hv1⟩ : ∃ v, k.vs.getD j Vl.nil = v := ⟨_, rfl⟩
      rw [hv1] at hrow hvo
      rw [eA]
      clear hv1 eA
      have hnm : m (L v.nm) = none := HM0.out (by omega) _
      have s1 : v.nm.size ≤ maxLen := by have := hvo.n2; unfold maxLen; omega
      have hb1 := bal (Below.refl _ wr) (.cells v.C 39)
      have y1 := Blk.new wr 39 v.C; have b1 := bcl b hb1; have M1 := hMp.below hb1 hMp.lt
      clear hb1
      go_upto_region 7 with (first | (refine wpList_at_g rfl 39 _ rfl _ _ v.C rfl _ hrow Tryd.underlying39 rfl (by kernel_rfl) ?_) | (refine wpList_store_new rfl 39 _ _ rfl rfl wr.heap.size v.C rfl rfl _ #[.string ⟨#[]⟩, .int .u8 0, .string ⟨#[]⟩, .int .u32 0, .string ⟨#[]⟩] wr rfl rfl rfl (by kernel_rfl) (by kernel_rfl) ?_))
      clear hrow hMp b
      generalize wr.alloc (.cells v.C 39) = V at *
      obtain ⟨q2, hq⟩ : ∃ q, wr.heap.size = q := ⟨_, rfl⟩
      simp only [hq] at y1 ⊢
      clear hq
      have hcv := value_any v V hvo
      go_wp2_with (refine wpList_row_g rfl 39 _ rfl _ rfl _ _ _ _ y1 Tryd.underlying39 rfl (by kernel_rfl) ?_)
      refine hcv.mono ?_; rintro x w2 ⟨rfl, b2⟩
      have y2 := y1.below b2 y1.lt; have M2 := M1.below b2 M1.lt
      have b2 := bcl b1 b2
      clear hcv y1 M1 b1
      have d0 : w2.cell? ⟨q2, 0, none⟩ = some (.string v.nm) := y2.cell 0
      have hb3 := bal (Below.refl _ w2) (.cells (#[] : Array Value) 62)
      have y3 := y2.alloc (.cells (#[] : Array Value) 62); have b3 := bcl b2 hb3; have M3 := M2.below hb3 M2.lt
      clear hb3
      go_upto_region 12 with (first | (at_lookup; refine wpList_look_no _ rfl _ _ 61 rfl 9 62 Tryd.underlying9 Tryd.underlying61 _ (zemp _) mb j _ rfl M2 v.nm rfl s1 hnm ?_) | (refine wpList_store_new rfl 62 _ _ rfl rfl w2.heap.size (#[] : Array Value) rfl rfl _ (#[] : Array Value) w2 rfl rfl rfl (by kernel_rfl) (by kernel_rfl) ?_))
      clear M2 y2 b2 d0
      generalize w2.alloc (.cells (#[] : Array Value) 62) = V3 at *
      have d0 : V3.cell? ⟨q2, 0, none⟩ = some (.string v.nm) := y3.cell 0
      go_wp2_with (at_mapUpdate; refine wpList_mput _ rfl _ _ _ 61 rfl 9 62 Tryd.underlying9 Tryd.underlying61 mb j _ rfl M3 (by unfold maxLen; omega) v.nm rfl s1 (.agg #[]) rfl ?_; intro w4 M4 g4)
      have b4 := b3.grown g4 b3.size (fun g hg => by injection hg with hg; omega)
      clear b3 y3 g4 M3 d0
      go_wp2_with fail
      go_roundw
      case rel => exact ⟨j + 1, _, by go_num, by omega, fun e => by omega, M4, b4⟩
      case measure => simp [intOf]; omega
    · obtain rfl : j = k.n := by omega
      have hltI : ¬ (k.n : Int) < (k.n : Int) := by omega
      go_wp2_with fail
      go_ret
      exact ⟨rfl, b⟩
theorem nodup_at {l : List (List UInt8)} {k : Nat} {x : List UInt8} (hn : l.Nodup) (hk : l[k]? = some x) : x ∉ l.take k := fun hm => nd_no hk hm hn
set_option maxRecDepth 100000 in
set_option maxHeartbeats 12800000 in
theorem hcheck_any (A : Option Addr) (n c B : Nat) (hs : List Hk) (w : World) (hM : MaxC w) (hR : HvR w B A n hs) (hB : B ≤ w.heap.size) (hn : n ≤ 4096) (hg : ∀ k ∈ hs, HkGd k) (hd : (hs.map fun k => L k.p).Nodup) :
    Calls Tryd.prog 12 #[.agg #[.slice A n c]] w fun x w' => x = .returned (.int .i64 0) ∧ Below w.heap.size w w' := by
  have hlen := hR.s.len
  have hmk := fun W => run_makeMap_hint (P := Tryd.prog) 61 9 62 .i64 (n : Int) Tryd.underlying61 W
  have hI : ¬ (4096 : Int) < (n : Int) := by omega
  have hlt0 := hM.lt
  have b0 := bal (Below.refl _ w) (.cells #[.slice A n c] 29); have x0 := Blk.new w 29 #[.slice A n c]
  go_enter Tryd.func12, Tryd.ntmps12
  go_upto_region 1 with fail
  generalize w.alloc (.cells #[.slice A n c] 29) = V at *
  obtain ⟨q, hq0⟩ : ∃ q, w.heap.size = q := ⟨_, rfl⟩
  have x1 : Blk V q 29 #[.slice A n c] := by rw [← hq0]; exact x0
  have hqw : w.heap.size ≤ q := Nat.le_of_eq hq0
  rw [hq0]
  have hqV : q < V.heap.size := x1.lt
  clear x0 hq0
  have c0 : V.cell? ⟨q, 0, none⟩ = some (.slice A n c) := x1.cell 0
  have m3 := Mp.Smap.made V Tryd.prog 9
  have b3 := bal b0 (.map #[] 0); have x3 := x1.alloc (.map #[] 0)
  go_upto_region 4 with fail
  clear x1 b0 c0 hmk
  generalize V.alloc (.map #[] 0) = W at *
  obtain ⟨mb, hmb⟩ : ∃ g, V.heap.size = g := ⟨_, rfl⟩
  rw [hmb] at m3 hqV ⊢
  clear hmb
  have hmbw : w.heap.size ≤ mb := by omega
  have c1 : W.cell? ⟨q, 0, none⟩ = some (.slice A n c) := x3.cell 0
  go_upto_region 5 with fail
  go_loopw [19] (fun i wr => ∃ (j : Nat) (m : Mp.Key → Option Value), i = .int .i64 (j : Int) ∧ j ≤ n ∧ (∀ x, (m x).isSome = true ↔ x ∈ (hs.map fun k => L k.p).take j) ∧ Smap wr Tryd.prog 9 mb j m ∧ Below w.heap.size w wr) (fun i _ => n - (intOf i).toNat)
  case atStart => exact ⟨0, fun _ => none, rfl, Nat.zero_le _, fun x => by simp, m3, b3⟩
  case round =>
    clear m3 b3 c1 x3
    obtain ⟨j, m, rfl, hj, hmm, hMp, b⟩ := hrel
    have HMM := Lib.hid hmm; clear hmm
    by_cases hlt : j < n
    · have hltI : (j : Int) < (n : Int) := by omega
      have hkl : j < hs.length := by omega
      have hRb := hR.below (b.mono hB)
      obtain ⟨ad, eA, hrow⟩ := hRb.s.row (fun _ => rfl) Hk.nil hlt
      subst eA
      have hmem := getD_mem (L := hs) Hk.nil hkl
      have hkm := hRb.m _ hmem
      have hkg := hg _ hmem
      have hat : (hs.map fun k => L k.p)[j]? = some (L (hs.getD j Hk.nil).p) := by
        rw [List.getElem?_map, getD_at Hk.nil hkl]; rfl
      obtain ⟨v, hv1⟩ : ∃ v, hs.getD j Hk.nil = v := ⟨_, rfl⟩
      rw [hv1] at hrow hkm hkg hat
      clear hv1 hmem hRb
      have hnm : m (L v.p) = none := by
        cases hx : m (L v.p) with
        | none => rfl
        | some u => exact absurd ((HMM.out _).1 (by rw [hx]; rfl)) (nodup_at hd hat)
      have HMM2 := Lib.hid (show ∀ x, ((mput m (L v.p) (.agg #[])) x).isSome = true ↔ x ∈ (hs.map fun k => L k.p).take (j + 1) from fun x => by
        rw [take_has hat]
        by_cases g : x = L v.p
        · rw [g, mput_same]; simp
        · rw [mput_other g, HMM.out x]; simp [g])
      have s1 : v.p.size ≤ maxLen := by have := hkg.p.s2; unfold maxLen; omega
      have hMC := hM.below b hlt0
      have hBr := Nat.le_trans hB b.size
      have hb1 := bal (Below.refl _ wr) (.cells v.C 45)
      have y1 := Blk.new wr 45 v.C; have b1 := bcl b hb1; have M1 := hMp.below hb1 hMp.lt
      have hcv := checkKey_any v B (wr.alloc (.cells v.C 45)) (hMC.below hb1 hMC.lt) (hkm.below (hb1.mono hBr)) (Nat.le_trans hBr hb1.size) hkg
      clear hb1
      go_upto_region 7 with (first | (refine wpList_at_g rfl 45 _ rfl _ _ v.C rfl _ hrow Tryd.underlying45 rfl (by kernel_rfl) ?_) | (refine wpList_store_new rfl 45 _ _ rfl rfl wr.heap.size v.C rfl rfl _ #[.string ⟨#[]⟩, .slice none 0 0] wr rfl rfl rfl (by kernel_rfl) (by kernel_rfl) ?_))
      clear hrow hMp b
      generalize wr.alloc (.cells v.C 45) = V at *
      obtain ⟨q2, hq⟩ : ∃ q, wr.heap.size = q := ⟨_, rfl⟩
      simp only [hq] at y1 ⊢
      clear hq
      go_wp2_with (refine wpList_row_g rfl 45 _ rfl _ rfl _ _ _ _ y1 Tryd.underlying45 rfl (by kernel_rfl) ?_)
      refine hcv.mono ?_; rintro x w2 ⟨rfl, b2⟩
      have y2 := y1.below b2 y1.lt; have M2 := M1.below b2 M1.lt
      have b2 := bcl b1 b2
      clear hcv y1 M1 b1
      have d0 : w2.cell? ⟨q2, 0, none⟩ = some (.string v.p) := y2.cell 0
      have hb3 := bal (Below.refl _ w2) (.cells (#[] : Array Value) 62)
      have y3 := y2.alloc (.cells (#[] : Array Value) 62); have b3 := bcl b2 hb3; have M3 := M2.below hb3 M2.lt
      clear hb3
      go_upto_region 12 with (first | (at_lookup; refine wpList_look_no _ rfl _ _ 61 rfl 9 62 Tryd.underlying9 Tryd.underlying61 _ (zemp _) mb j _ rfl M2 v.p rfl s1 hnm ?_) | (refine wpList_store_new rfl 62 _ _ rfl rfl w2.heap.size (#[] : Array Value) rfl rfl _ (#[] : Array Value) w2 rfl rfl rfl (by kernel_rfl) (by kernel_rfl) ?_))
      clear M2 y2 b2 d0
      generalize w2.alloc (.cells (#[] : Array Value) 62) = V3 at *
      have d0 : V3.cell? ⟨q2, 0, none⟩ = some (.string v.p) := y3.cell 0
      go_wp2_with (at_mapUpdate; refine wpList_mput _ rfl _ _ _ 61 rfl 9 62 Tryd.underlying9 Tryd.underlying61 mb j _ rfl M3 (by unfold maxLen; omega) v.p rfl s1 (.agg #[]) rfl ?_; intro w4 M4 g4)
      have b4 := b3.grown g4 b3.size (fun g hg => by injection hg with hg; omega)
      clear b3 y3 g4 M3 d0
      go_wp2_with fail
      go_roundw
      case rel => exact ⟨j + 1, _, by go_num, by omega, HMM2.out, M4, b4⟩
      case measure => simp [intOf]; omega
    · obtain rfl : j = n := by omega
      have hltI : ¬ (j : Int) < (j : Int) := by omega
      go_wp2_with fail
      go_ret
      exact ⟨rfl, b⟩
end Go.Proofs.YtgflodjohaemiaaDoor.Ky
