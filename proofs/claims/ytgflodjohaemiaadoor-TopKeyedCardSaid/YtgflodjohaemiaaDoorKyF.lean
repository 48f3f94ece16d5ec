/-
  CHARTS: shared, Check: walked.
-/
import Derived.Test.YtgflodjohaemiaaDoorKyE
import Derived.Deep.RegionHeld3
import Derived.BigQuiet
import Derived.Deep.CutBlock
namespace Go.Proofs.YtgflodjohaemiaaDoor.Ky
open Go.ChangeShapes Go.WideShapes Go.ChangeAt Go.RowKit Go.Maps
open Go.Proofs.YtgflodjohaemiaaDoor
open Go.Proofs.YtgflodjohaemiaaDoor.Wd
open Go.Proofs.YtgflodjohaemiaaDoor.Sl
open Go.Proofs.YtgflodjohaemiaaDoor.Mp (Smap wpList_look_yes wpList_look_no wpList_mput mput mput_same mput_other kS hR)
open Go.Proofs.YtgflodjohaemiaaDoor.Mr (Rmap rk row_key rowV)
open Go.Proofs.YtgflodjohaemiaaDoor.Utf (L)
set_option linter.unusedVariables false
set_option linter.unusedSimpArgs false
/-- the owners of zones: a step; an entry's; all entries' -/
def shS (l : List En) (k : Nat) (m : Mp.Key → Option Nat) (z : Mp.Key) : Option (Mp.Key → Option Nat) :=
  match m z with
  | none => some (nput m z k)
  | some j => if L (l.getD j En.nil).ky = L (l.getD k En.nil).ky then some m else none
def shZ (l : List En) (k : Nat) (m : Mp.Key → Option Nat) (zs : List ByteArray) : Option (Mp.Key → Option Nat) := zs.foldlM (fun m z => shS l k m (L z)) m
def shF (l : List En) : Nat → Option (Mp.Key → Option Nat)
  | 0 => some (fun _ => none)
  | k + 1 => (shF l k).bind fun m => shZ l k m (l.getD k En.nil).zs
def shB (l : List En) : Bool := (shF l l.length).isNone
theorem shZ_take {l : List En} {k j : Nat} {m : Mp.Key → Option Nat} {zs : List ByteArray} {z : ByteArray} (hj : j < zs.length) (hz : zs.getD j ByteArray.empty = z) : shZ l k m (zs.take (j + 1)) = (shZ l k m (zs.take j)).bind fun m' => shS l k m' (L z) := by
  rw [getD_take ByteArray.empty hj, hz]; unfold shZ; rw [List.foldlM_append]
  cases List.foldlM (fun m z => shS l k m (L z)) m (zs.take j) with
  | none => rfl
  | some m' =>
    show (List.foldlM (fun m z => shS l k m (L z)) m' [z]) = shS l k m' (L z)
    simp only [List.foldlM_cons, List.foldlM_nil]
    cases shS l k m' (L z) <;> rfl
theorem shZ_none {l : List En} {k j : Nat} {m : Mp.Key → Option Nat} {zs : List ByteArray} (h : shZ l k m (zs.take j) = none) : shZ l k m zs = none := by
  have : zs = zs.take j ++ zs.drop j := (List.take_append_drop j zs).symm
  unfold shZ at h ⊢
  rw [this, List.foldlM_append, h]; rfl
theorem shF_none {l : List En} {k : Nat} (h : shF l k = none) (j : Nat) : shF l (k + j) = none := by
  induction j with
  | zero => exact h
  | succ j ih => show (shF l (k + j)).bind _ = none; rw [ih]; rfl
theorem shB_yes {l : List En} {k j : Nat} {m : Mp.Key → Option Nat} (hk : k < l.length) (h : shF l k = some m) (h2 : shZ l k m ((l.getD k En.nil).zs.take j) = none) : shB l = true := by
  have h3 : shF l (k + 1) = none := by show (shF l k).bind _ = none; rw [h]; exact shZ_none h2
  unfold shB
  rw [show l.length = k + 1 + (l.length - (k + 1)) by omega, shF_none h3]; rfl
set_option maxRecDepth 100000 in
set_option maxHeartbeats 25600000 in
theorem shared_any (Ad : Option Addr) (n c B : Nat) (l : List En) (w : World) (hR : ChR w B Ad n c l) (hB : B ≤ w.heap.size) (hn : n ≤ 4096) (h32 : ∀ e ∈ l, e.n ≤ 32) : Calls Tryd.prog 21 #[.slice Ad n c] w fun x w' => x = .returned (.bool (shB l)) ∧ Below w.heap.size w w' := by
  have hmk := fun W => run_makeMap_hint (P := Tryd.prog) 82 9 3 .i64 (n : Int) Tryd.underlying82 W
  have m1 := Mp.Smap.made w Tryd.prog 9
  have b1 := bal (Below.refl _ w) (.map #[] 0)
  have hlen := hR.s.len
  go_enter Tryd.func21, Tryd.ntmps21
  go_upto_region 3 with fail
  generalize w.alloc (.map #[] 0) = W at *
  obtain ⟨mb, hmb⟩ : ∃ g, w.heap.size = g := ⟨_, rfl⟩
  have hge : w.heap.size ≤ mb := Nat.le_of_eq hmb
  rw [hmb] at m1 ⊢
  clear hmk hmb
  go_loopw [4, 5, 15] (fun _ _ i wr => ∃ (k : Nat) (m : Mp.Key → Option Nat) (nn : Nat), i = .int .i64 (k : Int) ∧ k ≤ n ∧ shF l k = some m ∧ (∀ x v, m x = some v → v < k) ∧ nn ≤ 64 * k ∧ Smap wr Tryd.prog 9 mb nn (nMap m) ∧ Below w.heap.size w wr) (fun _ _ i _ => n - (intOf i).toNat)
  case atStart => exact ⟨0, fun _ => none, 0, rfl, Nat.zero_le _, rfl, fun x v h => (by cases h), Nat.le_refl _, m1, b1⟩
  case round =>
    clear m1 b1
    obtain ⟨k, m, nn, rfl, hk, hF, hV, hnn, hM, b⟩ := hrel
    have HF := Lib.hid hF; have HV := Lib.hid hV; clear hF hV
    by_cases hlt : k < n
    · have hltI : (k : Int) < (n : Int) := by omega
      have hkl : k < l.length := by omega
      obtain ⟨ad, eA, hrow⟩ := (hR.s.below (b.mono hB)).row (fun _ => rfl) En.nil hlt
      have HEA := Lib.hid eA
      rw [eA]
      have heo := hR.b _ (getD_mem (L := l) En.nil hkl)
      have h32e := h32 _ (getD_mem (L := l) En.nil hkl)
      have HYS := Lib.hid (fun j h => shB_yes (j := j) hkl HF.out h)
      have HFS := Lib.hid (show shF l (k + 1) = shZ l k m (l.getD k En.nil).zs from by show (shF l k).bind _ = _; rw [HF.out]; rfl)
      obtain ⟨e, he⟩ : ∃ e, l.getD k En.nil = e := ⟨_, rfl⟩
      rw [he] at hrow heo h32e HYS HFS
      have HE := Lib.hid he; clear he
      have hb1 := bal (Below.refl _ wr) (.cells e.C 58)
      have y1 := Blk.new wr 58 e.C; have b1 := bcl b hb1; have M1 := hM.below hb1 hM.lt
      clear hb1
      go_upto_region 5 with (first | (refine wpList_at_g rfl 58 _ rfl _ _ e.C rfl _ hrow Tryd.underlying58 rfl (by kernel_rfl) ?_) | (refine wpList_store_new rfl 58 _ _ rfl rfl wr.heap.size e.C rfl rfl _ #[.string ⟨#[]⟩, .string ⟨#[]⟩, .slice none 0 0] wr rfl rfl rfl (by kernel_rfl) (by kernel_rfl) ?_))
      clear hrow hM b eA
      generalize wr.alloc (.cells e.C 58) = V at *
      obtain ⟨q, hq⟩ : ∃ q, wr.heap.size = q := ⟨_, rfl⟩
      simp only [hq] at y1 ⊢
      clear hq
      have c2 : V.cell? ⟨q, 2, none⟩ = some (.slice e.A e.n e.c) := y1.cell 2
      have hzl := heo.2.2.1.len
      go_upto_region 6 with fail
      clear c2
      go_loopw [7, 8, 9, 23] (fun _ _ _ i wq => ∃ (j : Nat) (m2 : Mp.Key → Option Nat) (nn2 : Nat), i = .int .i64 (j : Int) ∧ j ≤ e.n ∧ shZ l k m (e.zs.take j) = some m2 ∧ (∀ x v, m2 x = some v → v < k + 1) ∧ nn2 ≤ nn + j ∧ Smap wq Tryd.prog 9 mb nn2 (nMap m2) ∧ Blk wq q 58 e.C ∧ Below w.heap.size w wq) (fun _ _ _ i _ => e.n - (intOf i).toNat)
      case atStart => exact ⟨0, m, nn, rfl, Nat.zero_le _, rfl, fun x v h => Nat.lt_succ_of_lt (HV.out x v h), Nat.le_refl _, M1, y1, b1⟩
      case round =>
        clear M1 y1 b1
        obtain ⟨j, m2, nn2, rfl, hj, hS2, hV2, hnn2, M1, y1, b1⟩ := hrel
        have HS := Lib.hid hS2; have HV2 := Lib.hid hV2; clear hS2 hV2
        by_cases hl2 : j < e.n
        · have hl2I : (j : Int) < (e.n : Int) := by omega
          have hjl : j < e.zs.length := by omega
          obtain ⟨az, eZ, zrow⟩ := (heo.2.2.1.below (b1.mono hB)).row (fun _ => rfl) ByteArray.empty hl2
          rw [eZ]
          have hsz := heo.2.2.2.1 _ (getD_mem (L := e.zs) ByteArray.empty hjl)
          have HST := Lib.hid (fun z hz => shZ_take (l := l) (k := k) (m := m) (z := z) hjl hz)
          obtain ⟨z, hz⟩ : ∃ z, e.zs.getD j ByteArray.empty = z := ⟨_, rfl⟩
          rw [hz] at zrow hsz
          have HSZ := Lib.hid (show shZ l k m (e.zs.take (j + 1)) = shS l k m2 (L z) from by rw [HST.out z hz, HS.out]; rfl)
          have cp : wr.cell? (az.add j) = some (.string z) := by
            have := row_c0 zrow (v := .string z) rfl
            rwa [Nat.mul_one] at this
          clear hz zrow eZ HST
          have d0 : wr.cell? ⟨q, 0, none⟩ = some (.string e.ky) := y1.cell 0
          cases hmz : m2 (L z) with
          | none =>
            have hnm : nMap m2 z.data.toList = none := by show Option.map nV (m2 (L z)) = none; rw [hmz]; rfl
            have HS2 := Lib.hid (show shZ l k m (e.zs.take (j + 1)) = some (nput m2 (L z) k) from by rw [HSZ.out]; unfold shS; rw [hmz])
            have HV3 := Lib.hid (show ∀ x v, (nput m2 (L z) k) x = some v → v < k + 1 from fun x v h => by
              unfold nput at h
              split at h
              · injection h with h; omega
              · exact HV2.out x v h)
            clear hmz
            go_wp2_with (first | (at_lookup; refine wpList_look_no _ rfl _ _ 82 rfl 9 3 Tryd.underlying9 Tryd.underlying82 _ (zint _) mb nn2 _ rfl M1 z rfl hsz hnm ?_) | (at_mapUpdate; refine wpList_mput _ rfl _ _ _ 82 rfl 9 3 Tryd.underlying9 Tryd.underlying82 mb nn2 _ rfl M1 (by unfold maxLen; omega) z rfl hsz (nV k) rfl ?_; intro w4 M4 g4))
            have M5 : Smap w4 Tryd.prog 9 mb (nn2 + 1) (nMap (nput m2 (L z) k)) := by rw [← nput_map]; exact M4
            have b4 := b1.grown g4 b1.size (fun g hg => by injection hg with hg; omega)
            have y4 := y1.grown g4 (fun e => M1.cells_ne y1 (by injection e with e; exact e.symm))
            clear M4 g4 M1 y1 b1 cp d0
            go_wp2_with fail
            go_roundw
            case rel => exact ⟨j + 1, _, nn2 + 1, by go_num, by omega, HS2.out, HV3.out, by omega, M5, y4, b4⟩
            case measure => simp [intOf]; omega
          | some jj =>
            have hnm : nMap m2 z.data.toList = some (nV jj) := by show Option.map nV (m2 (L z)) = _; rw [hmz]; rfl
            have hjj := HV2.out _ _ hmz
            have hjn : jj < n := by omega
            have hjnI : (jj : Int) < (n : Int) := by omega
            obtain ⟨ad2, eA2, jrow⟩ := (hR.s.below (b1.mono hB)).row (fun _ => rfl) En.nil hjn
            obtain rfl : ad = ad2 := by have := HEA.out.symm.trans eA2; injection this
            have HQ := Lib.hid (show shS l k m2 (L z) = if L (l.getD jj En.nil).ky = L e.ky then some m2 else none from by unfold shS; rw [hmz, HE.out])
            obtain ⟨ej, hej⟩ : ∃ e, l.getD jj En.nil = e := ⟨_, rfl⟩
            rw [hej] at jrow HQ
            have f0 : wr.drew.cell? (ad.add (jj * 3)) = some (.string ej.ky) := row_c0 jrow (v := .string ej.ky) rfl
            have d0' : wr.drew.cell? ⟨q, 0, none⟩ = some (.string e.ky) := d0
            have M1d : Smap wr.drew Tryd.prog 9 mb nn2 (nMap m2) := M1
            have y1d : Blk wr.drew q 58 e.C := y1
            have b1d := b1.drew
            clear hej eA2 jrow hmz d0
            have d0 := d0'; clear d0'
            by_cases hky : L ej.ky = L e.ky
            · have hkb : (ej.ky.toList == e.ky.toList) = true := by rw [Lib.toList_data, Lib.toList_data, beq_iff_eq]; exact hky
              have hkb2 : (!ej.ky.toList == e.ky.toList) = false := by rw [hkb]; rfl
              have HS2 := Lib.hid (show shZ l k m (e.zs.take (j + 1)) = some m2 from by rw [HSZ.out, HQ.out, if_pos hky])
              have hnn : nn2 ≤ nn + (j + 1) := by omega
              clear hky
              go_upto_region 11 with (at_lookup; refine wpList_look_yes _ rfl _ _ 82 rfl 9 3 Tryd.underlying9 Tryd.underlying82 _ (zint _) mb nn2 _ rfl M1 z rfl hsz _ hnm ?_)
              refine wp_region_held_drew (S := fun w' => w'.cell? ⟨q, 0, none⟩ = some (.string e.ky) ∧ w'.cell? (ad.add (jj * 3)) = some (.string ej.ky)) (by kernel_rfl) (⟨d0, f0⟩) (fun hHeld => ?_)
              refine wpAnyH_take (i := 0) (oi := { dst := some 38, op := Op.move (Operand.tmp 0), type := 22, pos := "chart.go:98", after := #[], guard := none }) (v := ?_) rfl (by kernel_rfl) (by kernel_rfl) (by kernel_rfl) (fun _ _ _ h => h) (Or.inl ⟨by rfl, ?_⟩) hHeld ?_
              rotate_left
              · intro w hSw
                try dsimp only at hSw
                go_simp
                try with_reducible rfl
              try simp only [Act.put, List.setIfInBounds_toArray, List.set_cons_zero, List.set_cons_succ]
              refine wpAnyH_take (i := 1) (oi := { dst := some 39, op := Op.move (Operand.tmp 8), type := 3, pos := "chart.go:98", after := #[], guard := none }) (v := ?_) rfl (by kernel_rfl) (by kernel_rfl) (by kernel_rfl) (fun _ _ _ h => h) (Or.inl ⟨by rfl, ?_⟩) hHeld ?_
              rotate_left
              · intro w hSw
                try dsimp only at hSw
                go_simp
                try with_reducible rfl
              try simp only [Act.put, List.setIfInBounds_toArray, List.set_cons_zero, List.set_cons_succ]
              refine wpAnyH_take (i := 2) (oi := { dst := some 40, op := Op.indexAddr 22 (Operand.tmp 38) (Operand.tmp 39), type := 0, pos := "chart.go:98", after := #[{ on := 0, ground := Ground.data }, { on := 1, ground := Ground.data }], guard := none }) (v := ?_) rfl (by kernel_rfl) (by kernel_rfl) (by kernel_rfl) (fun _ _ _ h => h) (Or.inl ⟨by rfl, ?_⟩) hHeld ?_
              rotate_left
              · intro w hSw
                try dsimp only at hSw
                go_simp
                try with_reducible rfl
              try simp only [Act.put, List.setIfInBounds_toArray, List.set_cons_zero, List.set_cons_succ]
              refine wpAnyH_take (i := 3) (oi := { dst := some 41, op := Op.fieldAddr 58 (Operand.tmp 40) 0, type := 0, pos := "chart.go:98", after := #[{ on := 2, ground := Ground.data }], guard := none }) (v := ?_) rfl (by kernel_rfl) (by kernel_rfl) (by kernel_rfl) (fun _ _ _ h => h) (Or.inl ⟨by rfl, ?_⟩) hHeld ?_
              rotate_left
              · intro w hSw
                try dsimp only at hSw
                go_simp
                try with_reducible rfl
              try simp only [Act.put, List.setIfInBounds_toArray, List.set_cons_zero, List.set_cons_succ]
              refine wpAnyH_take (i := 4) (oi := { dst := some 42, op := Op.load 9 (Operand.tmp 41), type := 9, pos := "chart.go:98", after := #[{ on := 3, ground := Ground.data }], guard := none }) (v := ?_) rfl (by kernel_rfl) (by kernel_rfl) (by kernel_rfl) (fun _ _ _ h => h) (Or.inl ⟨by rfl, ?_⟩) hHeld ?_
              rotate_left
              · intro w hSw
                try dsimp only at hSw
                go_simp
                try with_reducible rfl
              try simp only [Act.put, List.setIfInBounds_toArray, List.set_cons_zero, List.set_cons_succ]
              refine wpAnyH_take (i := 5) (oi := { dst := some 43, op := Op.fieldAddr 58 (Operand.tmp 5) 0, type := 0, pos := "chart.go:98", after := #[], guard := none }) (v := ?_) rfl (by kernel_rfl) (by kernel_rfl) (by kernel_rfl) (fun _ _ _ h => h) (Or.inl ⟨by rfl, ?_⟩) hHeld ?_
              rotate_left
              · intro w hSw
                try dsimp only at hSw
                go_simp
                try with_reducible rfl
              try simp only [Act.put, List.setIfInBounds_toArray, List.set_cons_zero, List.set_cons_succ]
              refine wpAnyH_take (i := 6) (oi := { dst := some 44, op := Op.load 9 (Operand.tmp 43), type := 9, pos := "chart.go:98", after := #[{ on := 5, ground := Ground.data }], guard := none }) (v := ?_) rfl (by kernel_rfl) (by kernel_rfl) (by kernel_rfl) (fun _ _ _ h => h) (Or.inl ⟨by rfl, ?_⟩) hHeld ?_
              rotate_left
              · intro w hSw
                try dsimp only at hSw
                go_simp
                try with_reducible rfl
              try simp only [Act.put, List.setIfInBounds_toArray, List.set_cons_zero, List.set_cons_succ]
              refine wpAnyH_take (i := 7) (oi := { dst := some 45, op := Op.binOp BinOp.neq 9 (Operand.tmp 42) (Operand.tmp 44) 9, type := 4, pos := "chart.go:98", after := #[{ on := 4, ground := Ground.data }, { on := 6, ground := Ground.data }], guard := none }) (v := ?_) rfl (by kernel_rfl) (by kernel_rfl) (by kernel_rfl) (fun _ _ _ h => h) (Or.inl ⟨by rfl, ?_⟩) hHeld ?_
              rotate_left
              · intro w hSw
                try dsimp only at hSw
                go_simp
                try with_reducible rfl
              try simp only [Act.put, List.setIfInBounds_toArray, List.set_cons_zero, List.set_cons_succ]
              refine wpAnyH_done (by kernel_rfl) ?_ _
              clear hHeld
              go_wp2_with fail
              go_roundw
              case rel => exact ⟨j + 1, m2, nn2, by go_num, by omega, HS2.out, HV2.out, hnn, M1d, y1d, b1d⟩
              case measure => simp [intOf]; omega
            · have hkb : (ej.ky.toList == e.ky.toList) = false := by rw [Lib.toList_data, Lib.toList_data, beq_eq_false_iff_ne]; exact hky
              have hkb2 : (!ej.ky.toList == e.ky.toList) = true := by rw [hkb]; rfl
              have HT := Lib.hid (HYS.out (j + 1) (by rw [HSZ.out, HQ.out, if_neg hky]))
              clear hky
              go_upto_region 11 with (at_lookup; refine wpList_look_yes _ rfl _ _ 82 rfl 9 3 Tryd.underlying9 Tryd.underlying82 _ (zint _) mb nn2 _ rfl M1 z rfl hsz _ hnm ?_)
              refine wp_region_held_drew (S := fun w' => w'.cell? ⟨q, 0, none⟩ = some (.string e.ky) ∧ w'.cell? (ad.add (jj * 3)) = some (.string ej.ky)) (by kernel_rfl) (⟨d0, f0⟩) (fun hHeld => ?_)
              refine wpAnyH_take (i := 0) (oi := { dst := some 38, op := Op.move (Operand.tmp 0), type := 22, pos := "chart.go:98", after := #[], guard := none }) (v := ?_) rfl (by kernel_rfl) (by kernel_rfl) (by kernel_rfl) (fun _ _ _ h => h) (Or.inl ⟨by rfl, ?_⟩) hHeld ?_
              rotate_left
              · intro w hSw
                try dsimp only at hSw
                go_simp
                try with_reducible rfl
              try simp only [Act.put, List.setIfInBounds_toArray, List.set_cons_zero, List.set_cons_succ]
              refine wpAnyH_take (i := 1) (oi := { dst := some 39, op := Op.move (Operand.tmp 8), type := 3, pos := "chart.go:98", after := #[], guard := none }) (v := ?_) rfl (by kernel_rfl) (by kernel_rfl) (by kernel_rfl) (fun _ _ _ h => h) (Or.inl ⟨by rfl, ?_⟩) hHeld ?_
              rotate_left
              · intro w hSw
                try dsimp only at hSw
                go_simp
                try with_reducible rfl
              try simp only [Act.put, List.setIfInBounds_toArray, List.set_cons_zero, List.set_cons_succ]
              refine wpAnyH_take (i := 2) (oi := { dst := some 40, op := Op.indexAddr 22 (Operand.tmp 38) (Operand.tmp 39), type := 0, pos := "chart.go:98", after := #[{ on := 0, ground := Ground.data }, { on := 1, ground := Ground.data }], guard := none }) (v := ?_) rfl (by kernel_rfl) (by kernel_rfl) (by kernel_rfl) (fun _ _ _ h => h) (Or.inl ⟨by rfl, ?_⟩) hHeld ?_
              rotate_left
              · intro w hSw
                try dsimp only at hSw
                go_simp
                try with_reducible rfl
              try simp only [Act.put, List.setIfInBounds_toArray, List.set_cons_zero, List.set_cons_succ]
              refine wpAnyH_take (i := 3) (oi := { dst := some 41, op := Op.fieldAddr 58 (Operand.tmp 40) 0, type := 0, pos := "chart.go:98", after := #[{ on := 2, ground := Ground.data }], guard := none }) (v := ?_) rfl (by kernel_rfl) (by kernel_rfl) (by kernel_rfl) (fun _ _ _ h => h) (Or.inl ⟨by rfl, ?_⟩) hHeld ?_
              rotate_left
              · intro w hSw
                try dsimp only at hSw
                go_simp
                try with_reducible rfl
              try simp only [Act.put, List.setIfInBounds_toArray, List.set_cons_zero, List.set_cons_succ]
              refine wpAnyH_take (i := 4) (oi := { dst := some 42, op := Op.load 9 (Operand.tmp 41), type := 9, pos := "chart.go:98", after := #[{ on := 3, ground := Ground.data }], guard := none }) (v := ?_) rfl (by kernel_rfl) (by kernel_rfl) (by kernel_rfl) (fun _ _ _ h => h) (Or.inl ⟨by rfl, ?_⟩) hHeld ?_
              rotate_left
              · intro w hSw
                try dsimp only at hSw
                go_simp
                try with_reducible rfl
              try simp only [Act.put, List.setIfInBounds_toArray, List.set_cons_zero, List.set_cons_succ]
              refine wpAnyH_take (i := 5) (oi := { dst := some 43, op := Op.fieldAddr 58 (Operand.tmp 5) 0, type := 0, pos := "chart.go:98", after := #[], guard := none }) (v := ?_) rfl (by kernel_rfl) (by kernel_rfl) (by kernel_rfl) (fun _ _ _ h => h) (Or.inl ⟨by rfl, ?_⟩) hHeld ?_
              rotate_left
              · intro w hSw
                try dsimp only at hSw
                go_simp
                try with_reducible rfl
              try simp only [Act.put, List.setIfInBounds_toArray, List.set_cons_zero, List.set_cons_succ]
              refine wpAnyH_take (i := 6) (oi := { dst := some 44, op := Op.load 9 (Operand.tmp 43), type := 9, pos := "chart.go:98", after := #[{ on := 5, ground := Ground.data }], guard := none }) (v := ?_) rfl (by kernel_rfl) (by kernel_rfl) (by kernel_rfl) (fun _ _ _ h => h) (Or.inl ⟨by rfl, ?_⟩) hHeld ?_
              rotate_left
              · intro w hSw
                try dsimp only at hSw
                go_simp
                try with_reducible rfl
              try simp only [Act.put, List.setIfInBounds_toArray, List.set_cons_zero, List.set_cons_succ]
              refine wpAnyH_take (i := 7) (oi := { dst := some 45, op := Op.binOp BinOp.neq 9 (Operand.tmp 42) (Operand.tmp 44) 9, type := 4, pos := "chart.go:98", after := #[{ on := 4, ground := Ground.data }, { on := 6, ground := Ground.data }], guard := none }) (v := ?_) rfl (by kernel_rfl) (by kernel_rfl) (by kernel_rfl) (fun _ _ _ h => h) (Or.inl ⟨by rfl, ?_⟩) hHeld ?_
              rotate_left
              · intro w hSw
                try dsimp only at hSw
                go_simp
                try with_reducible rfl
              try simp only [Act.put, List.setIfInBounds_toArray, List.set_cons_zero, List.set_cons_succ]
              refine wpAnyH_done (by kernel_rfl) ?_ _
              clear hHeld
              go_wp2_with fail
              go_ret
              exact ⟨by rw [HT.out]; rfl, b1d⟩
        · obtain rfl : j = e.n := by omega
          have hl2I : ¬ (e.n : Int) < (e.n : Int) := by omega
          have HF2 := Lib.hid (show shF l (k + 1) = some m2 from by
            rw [HFS.out]
            have := HS.out
            rwa [List.take_of_length_le (by omega)] at this)
          go_wp2_with fail
          go_roundw
          case rel => exact ⟨k + 1, m2, nn2, by go_num, by omega, HF2.out, HV2.out, by omega, M1, b1⟩
          case measure => simp [intOf]; omega
    · obtain rfl : k = n := by omega
      have hltI : ¬ (k : Int) < (k : Int) := by omega
      have HT := Lib.hid (show shB l = false from by unfold shB; rw [hlen, HF.out]; rfl)
      go_wp2_with fail
      go_ret
      exact ⟨by rw [HT.out]; rfl, b⟩
end Go.Proofs.YtgflodjohaemiaaDoor.Ky
