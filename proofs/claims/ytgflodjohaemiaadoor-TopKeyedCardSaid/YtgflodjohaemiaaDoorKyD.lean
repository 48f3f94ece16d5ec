/-
  CHARTS: twice, alone: walked.
-/
import Derived.Test.YtgflodjohaemiaaDoorKyC
namespace Go.Proofs.YtgflodjohaemiaaDoor.Ky
open Go.ChangeShapes Go.WideShapes Go.ChangeAt Go.RowKit Go.Maps
open Go.Proofs.YtgflodjohaemiaaDoor
open Go.Proofs.YtgflodjohaemiaaDoor.Wd
open Go.Proofs.YtgflodjohaemiaaDoor.Sl
open Go.Proofs.YtgflodjohaemiaaDoor.Mp (Smap wpList_look_yes wpList_look_no wpList_mput mput mput_same mput_other kS hR)
open Go.Proofs.YtgflodjohaemiaaDoor.Mr (Rmap rk row_key rowV)
open Go.Proofs.YtgflodjohaemiaaDoor.Utf (L)
set_option linter.unusedVariables false
set_option linter.unusedSimpArgs false
theorem run_makeMap_hint {P : Program} (t k e : TypeId) (kd : IntKind) (n : Int) (ht : P.underlying t = some (.map k e)) (w : World) :
    (Instr.makeMap t (some (.int kd n))).run P w = .ok (.map (some w.heap.size)) (w.alloc (.map #[] 0)) := by
  simp [Instr.makeMap, run_underlying ht]; rfl
theorem check1_any (e : En) (w : World) (B : Nat) (hB : B ≤ w.heap.size) (he : EnOk w B e) : Calls Tryd.prog 17 #[.agg e.C] w fun x w' => x = .returned (.bool (!rgB e)) ∧ Below w.heap.size w w' := by
  have b0 := bal (Below.refl _ w) (.cells e.C 58); have x0 := Blk.new w 58 e.C
  have hr := fun W (b : Below w.heap.size w W) => right_any e W B (Nat.le_trans hB b.size) (he.below (b.mono hB))
  go_enter Tryd.func17, Tryd.ntmps17
  go_upto_region 1 with fail
  have hrr := hr _ b0
  generalize w.alloc (.cells e.C 58) = V at *
  go_wp2_with (refine wpList_row_g rfl 58 _ rfl _ rfl _ _ _ _ x0 Tryd.underlying58 rfl (by kernel_rfl) ?_)
  refine hrr.mono ?_; rintro x w1 ⟨rfl, hb⟩
  go_wp2_with fail
  go_ret
  exact ⟨rfl, bcl b0 hb⟩
/-- pairs of key and territory -/
def prs (l : List En) : List (List UInt8 × List UInt8) := l.map fun e => (L e.ky, L e.te)
open Classical in
noncomputable def twB (l : List En) : Bool := !decide (prs l).Nodup
theorem prs_len (l : List En) : (prs l).length = l.length := by unfold prs; rw [List.length_map]
theorem nd_step {α : Type} {P : List α} {k : Nat} {x : α} (hk : P[k]? = some x) (h : (P.take k).Nodup) (hx : x ∉ P.take k) : (P.take (k + 1)).Nodup := by
  rw [List.take_add_one, hk]
  exact List.nodup_append.2 ⟨h, by simp, fun a ha b hb => by simp at hb; subst hb; exact fun e => hx (e ▸ ha)⟩
theorem nd_no {α : Type} {P : List α} {k : Nat} {x : α} (hk : P[k]? = some x) (hx : x ∈ P.take k) : ¬ P.Nodup := fun h => by
  have h2 : (P.take (k + 1)).Nodup := h.sublist (List.take_sublist _ _)
  rw [List.take_add_one, hk] at h2
  exact (List.nodup_append.1 h2).2.2 x hx x (by simp) rfl
theorem prs_at {l : List En} {k : Nat} {e : En} (hk : k < l.length) (he : l.getD k En.nil = e) : (prs l)[k]? = some (L e.ky, L e.te) := by
  unfold prs
  rw [List.getElem?_map, List.getElem?_eq_getElem hk]
  rw [List.getD_eq_getElem?_getD, List.getElem?_eq_getElem hk] at he
  simp at he; rw [he]; rfl
theorem take_has {α : Type} {P : List α} {k : Nat} {x : α} (hk : P[k]? = some x) (y : α) : y ∈ P.take (k + 1) ↔ y ∈ P.take k ∨ y = x := by
  rw [List.take_add_one, hk, List.mem_append]; simp
theorem zemp : ∀ w, (zeroValue 62).run Tryd.prog w = .ok (.agg #[]) w := fun w => by kernel_rfl
set_option maxRecDepth 100000 in
set_option maxHeartbeats 12800000 in
theorem twice_any (Ad : Option Addr) (n c B : Nat) (l : List En) (w : World) (hR : ChR w B Ad n c l) (hB : B ≤ w.heap.size) : Calls Tryd.prog 19 #[.slice Ad n c] w fun x w' => x = .returned (.bool (twB l)) ∧ Below w.heap.size w w' := by
  have hmk := fun W => run_makeMap_hint (P := Tryd.prog) 79 81 62 .i64 (n : Int) Tryd.underlying79 W
  have m1 := Rmap.made w Tryd.prog 81
  have b1 := bal (Below.refl _ w) (.map #[] 0)
  have hlen := hR.s.len
  have hm := hR.m
  unfold maxLen at hm
  go_enter Tryd.func19, Tryd.ntmps19
  go_upto_region 3 with fail
  generalize w.alloc (.map #[] 0) = W at *
  obtain ⟨mb, hmb⟩ : ∃ g, w.heap.size = g := ⟨_, rfl⟩
  have hge : w.heap.size ≤ mb := Nat.le_of_eq hmb
  rw [hmb] at m1 ⊢
  clear hmk hmb
  go_loopw [14] (fun i wr => ∃ (k : Nat) (m : Mr.Key → Option Value), i = .int .i64 (k : Int) ∧ k ≤ n ∧ ((prs l).take k).Nodup ∧ (∀ x, (m x).isSome = true ↔ x ∈ (prs l).take k) ∧ (∀ x v, m x = some v → v = .agg #[]) ∧ Rmap wr Tryd.prog 81 mb k m ∧ Below w.heap.size w wr) (fun i _ => n - (intOf i).toNat)
  case atStart => exact ⟨0, fun _ => none, rfl, Nat.zero_le _, by simp, fun x => by simp, fun x v h => (by cases h), m1, b1⟩
  case round =>
    clear m1 b1
    obtain ⟨k, m, rfl, hk, hnd, hmm, hmv, hM, b⟩ := hrel
    have HND := Lib.hid hnd; have HMM := Lib.hid hmm; have HMV := Lib.hid hmv; clear hnd hmm hmv
    by_cases hlt : k < n
    · have hltI : (k : Int) < (n : Int) := by omega
      have hkl : k < l.length := by omega
      obtain ⟨ad, eA, hrow⟩ := (hR.s.below (b.mono hB)).row (fun _ => rfl) En.nil hlt
      subst eA
      have heo := hR.b _ (getD_mem (L := l) En.nil hkl)
      obtain ⟨e, he⟩ : ∃ e, l.getD k En.nil = e := ⟨_, rfl⟩
      rw [he] at hrow heo
      have HP := Lib.hid (prs_at hkl he)
      have s1 := heo.1; have s2 := heo.2.1
      clear he heo
      have hb1 := bal (Below.refl _ wr) (.cells e.C 58)
      have y1 := Blk.new wr 58 e.C; have b1 := bcl b hb1; have M1 := hM.below hb1 hM.lt
      clear hb1
      go_upto_region 5 with (first | (refine wpList_at_g rfl 58 _ rfl _ _ e.C rfl _ hrow Tryd.underlying58 rfl (by kernel_rfl) ?_) | (refine wpList_store_new rfl 58 _ _ rfl rfl wr.heap.size e.C rfl rfl _ #[.string ⟨#[]⟩, .string ⟨#[]⟩, .slice none 0 0] wr rfl rfl rfl (by kernel_rfl) (by kernel_rfl) ?_))
      clear hrow hM b
      generalize wr.alloc (.cells e.C 58) = V at *
      obtain ⟨q, hq⟩ : ∃ q, wr.heap.size = q := ⟨_, rfl⟩
      simp only [hq] at y1 ⊢
      clear hq
      have d0 : V.cell? ⟨q, 0, none⟩ = some (.string e.ky) := y1.cell 0
      have d1 : V.cell? ⟨q, 1, none⟩ = some (.string e.te) := y1.cell 1
      have hb2 := bal (Below.refl _ V) (.cells #[.string e.ky, .string e.te] 81)
      have r2 := Blk.new V 81 #[.string e.ky, .string e.te]; have b2 := bcl b1 hb2; have M2 := M1.below hb2 M1.lt
      clear hb2
      go_upto_region 6 with (refine wpList_store_new rfl 81 _ _ rfl rfl V.heap.size #[.string e.ky, .string e.te] rfl rfl _ #[.string ⟨#[]⟩, .string ⟨#[]⟩] V rfl rfl rfl (by kernel_rfl) (by simp [Value.oneCell']) ?_)
      clear d0 d1 y1 b1 M1
      generalize V.alloc (.cells #[.string e.ky, .string e.te] 81) = V2 at *
      obtain ⟨q2, hq⟩ : ∃ q, V.heap.size = q := ⟨_, rfl⟩
      simp only [hq] at r2 ⊢
      clear hq
      have hkey := row_key e.ky e.te s1 s2
      have hb3 := bal (Below.refl _ V2) (.cells (#[] : Array Value) 62)
      have r3 := r2.below hb3 r2.lt; have b3 := bcl b2 hb3; have M3 := M2.below hb3 M2.lt
      clear hb3
      cases hmx : m (L e.ky, L e.te) with
      | some v =>
        obtain rfl := HMV.out _ _ hmx
        have HT := Lib.hid (show twB l = true from by
          unfold twB
          rw [Bool.not_eq_true', decide_eq_false_iff_not]
          exact nd_no HP.out ((HMM.out _).1 (by rw [hmx]; rfl)))
        go_wp2_with (first | (refine wpList_row_g rfl 81 _ rfl _ rfl _ _ _ _ r2 Tryd.underlying81 rfl (by kernel_rfl) ?_) | (at_lookup; refine Mr.wpList_look_yes _ rfl _ _ 79 rfl 81 62 rk Tryd.underlying79 _ (zemp _) mb k m rfl M2 (e.ky, e.te) rfl ⟨s1, s2⟩ hkey _ hmx ?_) | (refine wpList_store_new rfl 62 _ _ rfl rfl V2.heap.size (#[] : Array Value) rfl rfl _ (#[] : Array Value) V2 rfl rfl rfl (by kernel_rfl) (by kernel_rfl) ?_))
        go_ret
        exact ⟨by rw [HT.out]; rfl, b3⟩
      | none =>
        have hnm : (L e.ky, L e.te) ∉ (prs l).take k := fun h => by
          have := (HMM.out _).2 h; rw [hmx] at this; cases this
        have HND2 := Lib.hid (nd_step HP.out HND.out hnm)
        have HMM2 := Lib.hid (show ∀ x, ((Mr.mput m (L e.ky, L e.te) (.agg #[])) x).isSome = true ↔ x ∈ (prs l).take (k + 1) from fun x => by
          rw [take_has HP.out]
          by_cases g : x = (L e.ky, L e.te)
          · rw [g, Mr.mput_same]; simp
          · rw [Mr.mput_other g, HMM.out x]; simp [g])
        have HMV2 := Lib.hid (show ∀ x v, (Mr.mput m (L e.ky, L e.te) (.agg #[])) x = some v → v = .agg #[] from fun x v h => by
          by_cases g : x = (L e.ky, L e.te)
          · rw [g, Mr.mput_same] at h; injection h with h; exact h.symm
          · rw [Mr.mput_other g] at h; exact HMV.out x v h)
        clear hnm
        go_upto_region 9 with (first | (refine wpList_row_g rfl 81 _ rfl _ rfl _ _ _ _ r2 Tryd.underlying81 rfl (by kernel_rfl) ?_) | (at_lookup; refine Mr.wpList_look_no _ rfl _ _ 79 rfl 81 62 rk Tryd.underlying79 _ (zemp _) mb k m rfl M2 (e.ky, e.te) rfl ⟨s1, s2⟩ hkey hmx ?_) | (refine wpList_store_new rfl 62 _ _ rfl rfl V2.heap.size (#[] : Array Value) rfl rfl _ (#[] : Array Value) V2 rfl rfl rfl (by kernel_rfl) (by kernel_rfl) ?_))
        clear M2 r2 b2
        generalize V2.alloc (.cells (#[] : Array Value) 62) = V3 at *
        go_wp2_with (first | (refine wpList_row_g rfl 81 _ rfl _ rfl _ _ _ _ r3 Tryd.underlying81 rfl (by kernel_rfl) ?_) | (at_mapUpdate; refine Mr.wpList_mput _ rfl _ _ _ 79 rfl 81 62 rk Tryd.underlying79 mb k m rfl M3 (by unfold maxLen; omega) (e.ky, e.te) rfl ⟨s1, s2⟩ hkey (.agg #[]) rfl ?_; intro w4 M4 g4))
        have b4 := b3.grown g4 b3.size (fun g hg => by injection hg with hg; omega)
        clear b3 g4 M3 r3
        go_wp2_with fail
        go_roundw
        case rel => exact ⟨k + 1, _, by go_num, by omega, HND2.out, HMM2.out, HMV2.out, M4, b4⟩
        case measure => simp [intOf]; omega
    · obtain rfl : k = n := by omega
      have hltI : ¬ (k : Int) < (k : Int) := by omega
      have HT := Lib.hid (show twB l = false from by
        unfold twB
        have h := HND.out
        rw [List.take_of_length_le (by rw [prs_len]; omega)] at h
        rw [decide_eq_true h]; rfl)
      go_wp2_with fail
      go_ret
      exact ⟨by rw [HT.out]; rfl, b⟩
end Go.Proofs.YtgflodjohaemiaaDoor.Ky
