/-
  CHARTS: Keys: walked.
-/
import Derived.Test.YtgflodjohaemiaaDoorKyG
import Derived.Deep.Onto
namespace Go.Proofs.YtgflodjohaemiaaDoor.Ky
open Go.ChangeShapes Go.WideShapes Go.ChangeAt Go.RowKit Go.Maps
open Go.Proofs.YtgflodjohaemiaaDoor
open Go.Proofs.YtgflodjohaemiaaDoor.Wd
open Go.Proofs.YtgflodjohaemiaaDoor.Sl
open Go.Proofs.YtgflodjohaemiaaDoor.Mp (Smap wpList_look_yes wpList_look_no wpList_mput mput mput_same mput_other kS hR)
open Go.Proofs.YtgflodjohaemiaaDoor.Mr (Rmap rk row_key rowV)
open Go.Proofs.YtgflodjohaemiaaDoor.Utf (L)
set_option linter.unusedVariables false
set_option linter.unusedSimpArgs false
theorem info_parts {P : Program} {t : TypeId} {z : Value} {n b : Nat} (h : (P.info? t).map (fun i => (i.zero, i.size, i.bytes)) = some (some z, n, b)) : ∃ i, P.info? t = some i ∧ i.zero = some z ∧ i.size = n ∧ i.bytes = b := by
  cases hi : P.info? t with
  | none => rw [hi] at h; cases h
  | some i => rw [hi] at h; injection h with h; injection h with h1 h2; injection h2 with h2 h3; exact ⟨i, rfl, h1, h2, h3⟩
theorem st_all (a : ByteArray) : (stC a).all (·.oneCell') = true := by simp [stC, Value.oneCell']
theorem st_inf : (Tryd.prog.info? 9).map (fun i => (i.zero, i.size, i.bytes)) = some (some (.string ⟨#[]⟩), 1, 16) := by kernel_rfl
theorem own_form {w : World} {base n size : Nat} {e : TypeId} {v : Value} {xs : List Value} (h : w.ownsRow base e size v n xs) : ∃ A c, v = .slice A n c := by
  rcases h.2 with ⟨rfl, rfl⟩ | ⟨g, cap, cur, rfl, _⟩
  · exact ⟨none, 0, rfl⟩
  · exact ⟨_, _, rfl⟩
theorem own_ge {w : World} {base : Nat} {e : TypeId} {size n : Nat} {v : Value} {xs : List Value} (h : w.ownsRow base e size v n xs) : ∀ g, v.ownBlock = some g → base ≤ g := fun g hg => (h.lt g hg).1
/-- the keys, each once -/
def ksF : List En → List ByteArray := fun l => l.foldl (fun a e => if L e.ky ∈ a.map L then a else a ++ [e.ky]) []
theorem ks_yes {l : List En} {k : Nat} {e : En} (hk : k < l.length) (he : l.getD k En.nil = e) (h : L e.ky ∈ (ksF (l.take k)).map L) : ksF (l.take (k + 1)) = ksF (l.take k) := by
  rw [getD_take En.nil hk, he]; unfold ksF at h ⊢; rw [List.foldl_append]
  show (if L e.ky ∈ _ then _ else _) = _
  rw [if_pos h]
theorem ks_no {l : List En} {k : Nat} {e : En} (hk : k < l.length) (he : l.getD k En.nil = e) (h : ¬ L e.ky ∈ (ksF (l.take k)).map L) : ksF (l.take (k + 1)) = ksF (l.take k) ++ [e.ky] := by
  rw [getD_take En.nil hk, he]; unfold ksF at h ⊢; rw [List.foldl_append]
  show (if L e.ky ∈ _ then _ else _) = _
  rw [if_neg h]
set_option maxRecDepth 100000 in
set_option maxHeartbeats 12800000 in
theorem keys_any (Ad : Option Addr) (n c B : Nat) (l : List En) (w : World) (hR : ChR w B Ad n c l) (hB : B ≤ w.heap.size) (hn : n ≤ 4096) :
    Calls Tryd.prog 7 #[.slice Ad n c] w fun x w' => ∃ A' c', x = .returned (.slice A' (ksF l).length c') ∧ Sls stC 1 w' w'.heap.size A' (ksF l).length (ksF l) ∧ (∀ a, A' = some a → w.heap.size ≤ a.block) ∧ Below w.heap.size w w' := by
  have hmk := fun W => run_makeMap_hint (P := Tryd.prog) 61 9 62 .i64 (n : Int) Tryd.underlying61 W
  have m1 := Mp.Smap.made w Tryd.prog 9
  have b1 := bal (Below.refl _ w) (.map #[] 0)
  have hlen := hR.s.len
  obtain ⟨i0, hi0, hz0, hz1, hz2⟩ := info_parts st_inf
  have HI := Lib.hid hi0; clear hi0
  go_enter Tryd.func7, Tryd.ntmps7
  go_upto_region 4 with fail
  have hsz := size_al w (.map #[] 0)
  generalize w.alloc (.map #[] 0) = W at *
  obtain ⟨mb, hmb⟩ : ∃ g, w.heap.size = g := ⟨_, rfl⟩
  have hge : w.heap.size ≤ mb := Nat.le_of_eq hmb
  rw [hmb] at m1 hsz ⊢
  have o1 := World.ownsRow_nil W (mb + 1) 9 1
  clear hmk hmb
  go_loopw [4, 14] (fun v i wr => ∃ (k : Nat) (acc : List ByteArray) (m : Mp.Key → Option Value), i = .int .i64 (k : Int) ∧ k ≤ n ∧ ksF (l.take k) = acc ∧ (∀ x, (m x).isSome = true ↔ x ∈ acc.map L) ∧ (∀ x u, m x = some u → u = .agg #[]) ∧ acc.length ≤ k ∧ Smap wr Tryd.prog 9 mb k m ∧ wr.ownsRow (mb + 1) 9 1 v acc.length (flat stC acc) ∧ mb + 1 ≤ wr.heap.size ∧ Below w.heap.size w wr) (fun _ i _ => n - (intOf i).toNat)
  case atStart => exact ⟨0, [], fun _ => none, rfl, Nat.zero_le _, rfl, fun x => by simp, fun x v h => (by cases h), Nat.le_refl _, m1, o1, by omega, b1⟩
  case round =>
    clear m1 b1 o1 hsz
    obtain ⟨k, acc, m, rfl, hk, hacc, hmm, hmv, hal, hM, ho, hbs, b⟩ := hrel
    have HA := Lib.hid hacc; have HMM := Lib.hid hmm; have HMV := Lib.hid hmv; clear hacc hmm hmv
    by_cases hlt : k < n
    · have hltI : (k : Int) < (n : Int) := by omega
      have hkl : k < l.length := by omega
      obtain ⟨ad, eA, hrow⟩ := (hR.s.below (b.mono hB)).row (fun _ => rfl) En.nil hlt
      subst eA
      have heo := hR.b _ (getD_mem (L := l) En.nil hkl)
      obtain ⟨e, he⟩ : ∃ e, l.getD k En.nil = e := ⟨_, rfl⟩
      rw [he] at hrow heo
      have HY := Lib.hid (fun h => (ks_yes hkl he h)); have HN := Lib.hid (fun h => (ks_no hkl he h))
      rw [HA.out] at HY HN
      have s1 := heo.1
      clear he heo
      have hb1 := bal (Below.refl _ wr) (.cells e.C 58)
      have y1 := Blk.new wr 58 e.C; have b1 := bcl b hb1; have M1 := hM.below hb1 hM.lt; have o1 := ho.alloc (.cells e.C 58)
      clear hb1
      go_upto_region 6 with (first | (refine wpList_at_g rfl 58 _ rfl _ _ e.C rfl _ hrow Tryd.underlying58 rfl (by kernel_rfl) ?_) | (refine wpList_store_new rfl 58 _ _ rfl rfl wr.heap.size e.C rfl rfl _ #[.string ⟨#[]⟩, .string ⟨#[]⟩, .slice none 0 0] wr rfl rfl rfl (by kernel_rfl) (by kernel_rfl) ?_))
      have hs1 := size_al wr (.cells e.C 58)
      clear hrow hM b ho
      generalize wr.alloc (.cells e.C 58) = V at *
      obtain ⟨q, hq⟩ : ∃ q, wr.heap.size = q := ⟨_, rfl⟩
      simp only [hq] at y1 hs1 hbs ⊢
      clear hq
      have d0 : V.cell? ⟨q, 0, none⟩ = some (.string e.ky) := y1.cell 0
      have hb3 := bal (Below.refl _ V) (.cells (#[] : Array Value) 62)
      have y3 := y1.alloc (.cells (#[] : Array Value) 62); have b3 := bcl b1 hb3; have M3 := M1.below hb3 M1.lt; have o3 := o1.alloc (.cells (#[] : Array Value) 62)
      clear hb3
      cases hmx : m (L e.ky) with
      | some v =>
        obtain rfl := HMV.out _ _ hmx
        have HT := Lib.hid (HY.out ((HMM.out _).1 (by rw [hmx]; rfl)))
        have hbs3 : mb + 1 ≤ (V.alloc (.cells (#[] : Array Value) 62)).heap.size := by rw [size_al]; omega
        go_wp2_with (first | (at_lookup; refine wpList_look_yes _ rfl _ _ 61 rfl 9 62 Tryd.underlying9 Tryd.underlying61 _ (zemp _) mb k _ rfl M1 e.ky rfl s1 _ hmx ?_) | (refine wpList_store_new rfl 62 _ _ rfl rfl V.heap.size (#[] : Array Value) rfl rfl _ (#[] : Array Value) V rfl rfl rfl (by kernel_rfl) (by kernel_rfl) ?_))
        go_roundw
        case rel => exact ⟨k + 1, acc, m, by go_num, by omega, HT.out, HMM.out, HMV.out, by omega, M3.mono (Nat.le_succ k), o3, hbs3, b3⟩
        case measure => simp [intOf]; omega
      | none =>
        have hnm : L e.ky ∉ acc.map L := fun h => by
          have := (HMM.out _).2 h; rw [hmx] at this; cases this
        have HT := Lib.hid (HN.out hnm)
        have HMM2 := Lib.hid (show ∀ x, ((mput m (L e.ky) (.agg #[])) x).isSome = true ↔ x ∈ (acc ++ [e.ky]).map L from fun x => by
          rw [List.map_append, List.mem_append]
          by_cases g : x = L e.ky
          · rw [g, mput_same]; simp
          · rw [mput_other g, HMM.out x]; simp [g])
        have HMV2 := Lib.hid (show ∀ x v, (mput m (L e.ky) (.agg #[])) x = some v → v = .agg #[] from fun x v h => by
          by_cases g : x = L e.ky
          · rw [g, mput_same] at h; injection h with h; exact h.symm
          · rw [mput_other g] at h; exact HMV.out x v h)
        clear hnm
        have hs3 := size_al V (.cells (#[] : Array Value) 62)
        go_upto_region 8 with (first | (at_lookup; refine wpList_look_no _ rfl _ _ 61 rfl 9 62 Tryd.underlying9 Tryd.underlying61 _ (zemp _) mb k _ rfl M1 e.ky rfl s1 hmx ?_) | (refine wpList_store_new rfl 62 _ _ rfl rfl V.heap.size (#[] : Array Value) rfl rfl _ (#[] : Array Value) V rfl rfl rfl (by kernel_rfl) (by kernel_rfl) ?_))
        clear M1 y1 b1 o1 d0
        generalize V.alloc (.cells (#[] : Array Value) 62) = V3 at *
        have d0 : V3.cell? ⟨q, 0, none⟩ = some (.string e.ky) := y3.cell 0
        go_upto_region 9 with (at_mapUpdate; refine wpList_mput _ rfl _ _ _ 61 rfl 9 62 Tryd.underlying9 Tryd.underlying61 mb k _ rfl M3 (by unfold maxLen; omega) e.ky rfl s1 (.agg #[]) rfl ?_; intro w4 M4 g4)
        have b4 := b3.grown g4 b3.size (fun g hg => by injection hg with hg; omega)
        have y4 := y3.grown g4 (fun e => M3.cells_ne y3 (by injection e with e; exact e.symm))
        have o4 := o3.kept g4 (.inr (fun e => by have := own_ge o3 _ e; omega))
        have hs4 := g4.size
        clear b3 y3 o3 g4 M3 d0
        have d0 : w4.cell? ⟨q, 0, none⟩ = some (.string e.ky) := y4.cell 0
        have rd := (Sls.of_blk (f := stC) (L := [e.ky]) (fun _ => rfl) (Blk.new w4 9 #[.string e.ky]) rfl).r
        have b5 := bal b4 (.cells #[.string e.ky] 9); have M5 := M4.alloc (.cells #[.string e.ky] 9); have o5 := o4.alloc (.cells #[.string e.ky] 9)
        have hs5 := size_al w4 (.cells #[.string e.ky] 9)
        clear y4 b4 M4 o4
        go_wp2_with (at_builtin; refine wpList_append_any _ rfl (.tmp 31) (.tmp 34) 30 rfl (mb + 1) 9 i0 _ 1 16 Tryd.underlying30 HI.out hz0 hz1 hz2 rfl (by decide) _ acc.length (flat stC acc) rfl o5 _ _ 1 1 (flat stC [e.ky]) rfl rd (flat_cells st_all _) (by unfold maxLen; omega) (by omega) (by have := b5.size; omega) ?_; intro v1 w6 o6 g6 _)
        have b6 := b5.grown g6 b5.size (fun g hg => by have := own_ge o5 g hg; omega)
        have M6 := M5.kept g6 (fun e => by have := own_ge o5 _ e.symm; omega)
        have hs6 := g6.size
        have o7 : w6.ownsRow (mb + 1) 9 1 v1 (acc ++ [e.ky]).length (flat stC (acc ++ [e.ky])) := by
          rw [flat_append, List.length_append, List.length_singleton]; exact o6
        clear b5 M5 g6 o6 rd o5
        go_wp2_with fail
        go_roundw
        case rel => exact ⟨k + 1, acc ++ [e.ky], _, by go_num, by omega, HT.out, HMM2.out, HMV2.out, by rw [List.length_append, List.length_singleton]; omega, M6, o7, by omega, b6⟩
        case measure => simp [intOf]; omega
    · obtain rfl : k = n := by omega
      have hltI : ¬ (k : Int) < (k : Int) := by omega
      have HT := Lib.hid (show ksF l = acc from by
        have h := HA.out
        rwa [List.take_of_length_le (by omega)] at h)
      obtain ⟨A', c', hv⟩ := own_form ho
      subst hv
      go_wp2_with fail
      go_ret
      rw [HT.out]
      exact ⟨A', ⟨c', rfl⟩, Sls.of_own rfl ho, fun a e => by have := own_ge ho a.block (by rw [e]; rfl); omega, b⟩
end Go.Proofs.YtgflodjohaemiaaDoor.Ky
