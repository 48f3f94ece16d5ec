/-
  WHETHER A SOURCE IS SMALL: walked.
-/
import Derived.Test.YtoklcbkphipmkaaDoorRows
import Derived.Test.YtoklcbkphipmkaaDoorSrc
import Derived.Lib.Hide
import Derived.WalkKit
import Derived.Deep.DeepCutAuto
namespace Go.Proofs.YtoklcbkphipmkaaDoor.Sr
open Go.ChangeShapes Go.WideShapes Go.ChangeAt Go.RowKit
open Go.Proofs.YtoklcbkphipmkaaDoor
open Go.Proofs.YtoklcbkphipmkaaDoor.Wd
open Go.Proofs.YtoklcbkphipmkaaDoor.Sl
set_option linter.unusedVariables false
theorem bal {w W : World} (h : Below w.heap.size w W) (o : Obj) : Below w.heap.size w (W.alloc o) := h.alloc h.size o
def ErS (e : Er) : Prop := e.ru.size ≤ 1000 ∧ e.fm.size ≤ 1000
def ZnS (z : Zn) : Prop := z.n ≤ 12 ∧ z.nm.size ≤ 1000 ∧ ∀ e ∈ z.es, ErS e
def RuS (r : Ru) : Prop := r.nm.size ≤ 1000 ∧ r.lt.size ≤ 1000
def LiS (l : Li) : Prop := l.tg.size ≤ 1000 ∧ l.nm.size ≤ 1000
/-- a source is small -/
structure SoS (h : Hd) (S : So) : Prop where
  rn : h.rn ≤ 40
  zn : h.zn ≤ 12
  ln : h.ln ≤ 20
  z : ∀ z ∈ S.zs, ZnS z
  r : ∀ r ∈ S.rs, RuS r
  l : ∀ l ∈ S.ls, LiS l
def SmP (h : Hd) (S : So) (w : World) (e : Ending) (w' : World) : Prop := ((e = .returned (.int .i64 0)) ∨ (e = .returned (.int .i64 1) ∧ SoS h S)) ∧ Below w.heap.size w w'
theorem all_k {α : Type} {P : α → Prop} {l : List α} {n : Nat} (d : α) (hl : l.length = n) (h : ∀ j, j < n → P (l.getD j d)) : ∀ a ∈ l, P a := fun a ha => by
  obtain ⟨i, hi, rfl⟩ := List.getElem_of_mem ha
  have := h i (by omega)
  rwa [List.getD_eq_getElem?_getD, List.getElem?_eq_getElem hi] at this
set_option maxRecDepth 100000 in
set_option maxHeartbeats 12800000 in
theorem small_any (h : Hd) (S : So) (w : World) (hS : SoR w w.heap.size h S) : Calls Tryd.prog 16 #[h.V] w (SmP h S w) := by
  have i1 := bal (Below.refl _ w) (.cells h.C 26)
  have x1 := Blk.new w 26 h.C
  have c0 : (w.alloc (.cells h.C 26)).cell? ⟨w.heap.size, 0, none⟩ = some (.slice h.rA h.rn h.rc) := x1.cell 0
  have c1 : (w.alloc (.cells h.C 26)).cell? ⟨w.heap.size, 1, none⟩ = some (.slice h.zA h.zn h.zc) := x1.cell 1
  have c2 : (w.alloc (.cells h.C 26)).cell? ⟨w.heap.size, 2, none⟩ = some (.slice h.lA h.ln h.lc) := x1.cell 2
  have HSR := Lib.hid hS
  have hrm := hS.rm; have hzm := hS.zm; have hlm := hS.lm
  unfold maxLen at hrm hzm hlm
  clear hS
  by_cases q1 : h.rn ≤ 40
  rotate_left
  · have q1' : (40 : Int) < (h.rn : Int) := by omega
    go_enter Tryd.func16, Tryd.ntmps16
    go_wp2_with fail
    go_ret
    exact ⟨.inl rfl, i1⟩
  have q1' : ¬ (40 : Int) < (h.rn : Int) := by omega
  by_cases q2 : h.zn ≤ 12
  rotate_left
  · have q2' : (12 : Int) < (h.zn : Int) := by omega
    go_enter Tryd.func16, Tryd.ntmps16
    go_wp2_with fail
    go_ret
    exact ⟨.inl rfl, i1⟩
  have q2' : ¬ (12 : Int) < (h.zn : Int) := by omega
  by_cases q3 : h.ln ≤ 20
  rotate_left
  · have q3' : (20 : Int) < (h.ln : Int) := by omega
    go_enter Tryd.func16, Tryd.ntmps16
    go_wp2_with fail
    go_ret
    exact ⟨.inl rfl, i1⟩
  have q3' : ¬ (20 : Int) < (h.ln : Int) := by omega
  go_enter Tryd.func16, Tryd.ntmps16
  go_wp2_with fail
  generalize w.alloc (.cells h.C 26) = W0 at *
  clear c0 c1 c2
  go_loopw [30] (fun i wr => ∃ k : Nat, i = .int .i64 k ∧ k ≤ h.zn ∧ (∀ j, j < k → ZnS (zn_ S.zs j)) ∧ Below w.heap.size w wr ∧ Blk wr w.heap.size 26 h.C) (fun i _ => h.zn - (intOf i).toNat)
  case atStart => exact ⟨0, rfl, Nat.zero_le _, fun j hj => absurd hj (Nat.not_lt_zero _), i1, x1⟩
  case round =>
    clear i1 x1
    obtain ⟨k, rfl, hk, hall, hb, hx⟩ := hrel
    have HA := Lib.hid hall; clear hall
    by_cases hlt : k < h.zn
    · have hlt' : (k : Int) < (h.zn : Int) := by omega
      have hS2 := HSR.out.below hb
      obtain ⟨ad, e0, hr⟩ : ∃ ad, h.zA = some ad ∧ Row wr w.heap.size (ad.add (k * 2)) (zn_ S.zs k).C := hS2.z.row (fun _ => rfl) Zn.nil hlt
      rw [e0]
      clear e0
      have hzb : ZnOk wr w.heap.size (zn_ S.zs k) := hS2.zb _ (getD_mem Zn.nil (by rw [hS2.z.len]; exact hlt))
      have i2 := bal hb (.cells (zn_ S.zs k).C 63)
      have x2 := hx.alloc (.cells (zn_ S.zs k).C 63)
      have z2 := Blk.new wr 63 (zn_ S.zs k).C
      have HST := Lib.hid (fun (q : ZnS (zn_ S.zs k)) j (hj : j < k + 1) => (show ZnS (zn_ S.zs j) by
        by_cases e : j = k
        · rw [e]; exact q
        · exact HA.out j (by omega)))
      clear hS2
      generalize zn_ S.zs k = z at *
      have n1 : (wr.alloc (.cells z.C 63)).cell? ⟨wr.heap.size, 0, none⟩ = some (.string z.nm) := z2.cell 0
      have n2 : (wr.alloc (.cells z.C 63)).cell? ⟨wr.heap.size, 1, none⟩ = some (.slice z.A z.n z.c) := z2.cell 1
      obtain ⟨hz1, hz2, hz3, hz4, -⟩ := hzb
      unfold maxLen at hz1 hz4
      have HZ3 := Lib.hid hz3; clear hz3
      by_cases g1 : z.n ≤ 12
      rotate_left
      · have g1' : (12 : Int) < (z.n : Int) := by omega
        go_wp2_with (first | refine wpList_at_g rfl 63 _ rfl w.heap.size _ z.C rfl _ hr Tryd.underlying63 rfl (by kernel_rfl) ?_ | refine wpList_store_new rfl 63 _ _ rfl rfl wr.heap.size z.C rfl rfl _ #[.string ByteArray.empty, .slice none 0 0] wr rfl rfl rfl (by kernel_rfl) (by kernel_rfl) ?_)
        go_ret
        exact ⟨.inl rfl, i2⟩
      have g1' : ¬ (12 : Int) < (z.n : Int) := by omega
      by_cases g2 : z.nm.size ≤ 1000
      rotate_left
      · have g2' : (1000 : Int) < (z.nm.size : Int) := by omega
        go_wp2_with (first | refine wpList_at_g rfl 63 _ rfl w.heap.size _ z.C rfl _ hr Tryd.underlying63 rfl (by kernel_rfl) ?_ | refine wpList_store_new rfl 63 _ _ rfl rfl wr.heap.size z.C rfl rfl _ #[.string ByteArray.empty, .slice none 0 0] wr rfl rfl rfl (by kernel_rfl) (by kernel_rfl) ?_)
        go_ret
        exact ⟨.inl rfl, i2⟩
      have g2' : ¬ (1000 : Int) < (z.nm.size : Int) := by omega
      go_wp2_with (first | refine wpList_at_g rfl 63 _ rfl w.heap.size _ z.C rfl _ hr Tryd.underlying63 rfl (by kernel_rfl) ?_ | refine wpList_store_new rfl 63 _ _ rfl rfl wr.heap.size z.C rfl rfl _ #[.string ByteArray.empty, .slice none 0 0] wr rfl rfl rfl (by kernel_rfl) (by kernel_rfl) ?_)
      have hesR := (hz2.below (bal (Below.refl _ wr) (.cells z.C 63) |>.mono hb.size))
      obtain ⟨wo, hwo⟩ : ∃ wo : World, wo = wr.alloc (.cells z.C 63) := ⟨_, rfl⟩
      rw [← hwo] at i2 x2 z2 hesR ⊢
      clear hwo n1 n2 hr hz2 hb hx
      go_loopw [47] (fun i wq => ∃ j : Nat, i = .int .i64 j ∧ j ≤ z.n ∧ (∀ t, t < j → ErS (er_ z.es t)) ∧ Below w.heap.size w wq ∧ Blk wq w.heap.size 26 h.C ∧ Sls Er.C 13 wq w.heap.size z.A z.n z.es) (fun i _ => z.n - (intOf i).toNat)
      case atStart => exact ⟨0, rfl, Nat.zero_le _, fun j hj => absurd hj (Nat.not_lt_zero _), i2, x2, hesR⟩
      case round =>
        clear i2 x2 z2 hesR
        obtain ⟨j, rfl, hj, hall2, hb, hx, hes⟩ := hrel
        have HA2 := Lib.hid hall2; clear hall2
        by_cases hl2 : j < z.n
        · have hl2' : (j : Int) < (z.n : Int) := by omega
          obtain ⟨ae, e0, hr2⟩ : ∃ ad, z.A = some ad ∧ Row wr w.heap.size (ad.add (j * 13)) (er_ z.es j).C := hes.row (fun _ => rfl) Er.nil hl2
          rw [e0] at hes ⊢
          clear e0
          have hrb : (er_ z.es j).Bd := HZ3.out _ (getD_mem Er.nil (by rw [hes.len]; exact hl2))
          have HST2 := Lib.hid (fun (q : ErS (er_ z.es j)) t (ht : t < j + 1) => (show ErS (er_ z.es t) by
            by_cases e : t = j
            · rw [e]; exact q
            · exact HA2.out t (by omega)))
          have i3 := bal hb (.cells (er_ z.es j).C 37)
          have x3 := hx.alloc (.cells (er_ z.es j).C 37)
          have es3 := hes.below ((bal (Below.refl _ wr) (.cells (er_ z.es j).C 37)).mono hb.size)
          have z3 := Blk.new wr 37 (er_ z.es j).C
          generalize er_ z.es j = y at *
          have n3 : (wr.alloc (.cells y.C 37)).cell? ⟨wr.heap.size, 3, none⟩ = some (.string y.ru) := z3.cell 3
          have n4 : (wr.alloc (.cells y.C 37)).cell? ⟨wr.heap.size, 4, none⟩ = some (.string y.fm) := z3.cell 4
          obtain ⟨hy1, hy2, -⟩ := hrb
          unfold maxLen at hy1 hy2
          clear hb hx hes z3
          by_cases k1 : y.ru.size ≤ 1000
          rotate_left
          · have k1' : (1000 : Int) < (y.ru.size : Int) := by omega
            go_wp2_with (first | refine wpList_at_g rfl 37 _ rfl w.heap.size _ y.C rfl _ hr2 Tryd.underlying37 rfl (by kernel_rfl) ?_ | refine wpList_store_new rfl 37 _ _ rfl rfl wr.heap.size y.C rfl rfl _ #[.int .i64 0, .int .u8 0, .int .i64 0, .string ByteArray.empty, .string ByteArray.empty, .bool false, .int .i64 0, .int .i64 0, .int .u8 0, .int .i64 0, .int .i64 0, .int .i64 0, .int .u8 0] wr rfl rfl rfl (by kernel_rfl) (by kernel_rfl) ?_)
            go_ret
            exact ⟨.inl rfl, i3⟩
          have k1' : ¬ (1000 : Int) < (y.ru.size : Int) := by omega
          by_cases k2 : y.fm.size ≤ 1000
          rotate_left
          · have k2' : (1000 : Int) < (y.fm.size : Int) := by omega
            go_wp2_with (first | refine wpList_at_g rfl 37 _ rfl w.heap.size _ y.C rfl _ hr2 Tryd.underlying37 rfl (by kernel_rfl) ?_ | refine wpList_store_new rfl 37 _ _ rfl rfl wr.heap.size y.C rfl rfl _ #[.int .i64 0, .int .u8 0, .int .i64 0, .string ByteArray.empty, .string ByteArray.empty, .bool false, .int .i64 0, .int .i64 0, .int .u8 0, .int .i64 0, .int .i64 0, .int .i64 0, .int .u8 0] wr rfl rfl rfl (by kernel_rfl) (by kernel_rfl) ?_)
            go_ret
            exact ⟨.inl rfl, i3⟩
          have k2' : ¬ (1000 : Int) < (y.fm.size : Int) := by omega
          go_wp2_with (first | refine wpList_at_g rfl 37 _ rfl w.heap.size _ y.C rfl _ hr2 Tryd.underlying37 rfl (by kernel_rfl) ?_ | refine wpList_store_new rfl 37 _ _ rfl rfl wr.heap.size y.C rfl rfl _ #[.int .i64 0, .int .u8 0, .int .i64 0, .string ByteArray.empty, .string ByteArray.empty, .bool false, .int .i64 0, .int .i64 0, .int .u8 0, .int .i64 0, .int .i64 0, .int .i64 0, .int .u8 0] wr rfl rfl rfl (by kernel_rfl) (by kernel_rfl) ?_)
          go_roundw
          case rel => exact ⟨j + 1, by go_num, by omega, HST2.out ⟨k1, k2⟩, i3, x3, es3⟩
          case measure => simp [intOf]; omega
        · obtain rfl : j = z.n := by omega
          have hl2' : ¬ (z.n : Int) < (z.n : Int) := by omega
          have HZS := Lib.hid (show ZnS z from ⟨g1, g2, all_k Er.nil hes.len HA2.out⟩)
          clear hes
          go_wp2_with fail
          go_roundw
          case rel => exact ⟨k + 1, by go_num, by omega, HST.out HZS.out, hb, hx⟩
          case measure => simp [intOf]; omega
    · obtain rfl : k = h.zn := by omega
      have hlt' : ¬ (h.zn : Int) < (h.zn : Int) := by omega
      have HZA := Lib.hid (show ∀ z ∈ S.zs, ZnS z from all_k Zn.nil HSR.out.z.len HA.out)
      have c0 : wr.cell? ⟨w.heap.size, 0, none⟩ = some (.slice h.rA h.rn h.rc) := hx.cell 0
      obtain ⟨W9, rfl⟩ : ∃ W9 : World, W9 = wr := ⟨_, rfl⟩
      clear HA
      go_wp2_with fail
      go_loopw [66] (fun i wr => ∃ k : Nat, i = .int .i64 k ∧ k ≤ h.rn ∧ (∀ j, j < k → RuS (ru_ S.rs j)) ∧ Below w.heap.size w wr ∧ Blk wr w.heap.size 26 h.C) (fun i _ => h.rn - (intOf i).toNat)
      case atStart => exact ⟨0, rfl, Nat.zero_le _, fun j hj => absurd hj (Nat.not_lt_zero _), hb, hx⟩
      case round =>
        clear hb hx hlt hlt' hk c0
        obtain ⟨k, rfl, hk, hall, hb, hx⟩ := hrel
        have HA := Lib.hid hall; clear hall
        by_cases hlt : k < h.rn
        · have hlt' : (k : Int) < (h.rn : Int) := by omega
          have hS2 := HSR.out.below hb
          obtain ⟨ae, e0, hr2⟩ : ∃ ad, h.rA = some ad ∧ Row wr w.heap.size (ad.add (k * 11)) (ru_ S.rs k).C := hS2.r.row (fun _ => rfl) Ru.nil hlt
          rw [e0]
          clear e0
          have hrb := HSR.out.rb _ (show ru_ S.rs k ∈ S.rs from getD_mem Ru.nil (by rw [hS2.r.len]; exact hlt))
          have HST := Lib.hid (fun (q : RuS (ru_ S.rs k)) j (hj : j < k + 1) => (show RuS (ru_ S.rs j) by
            by_cases e : j = k
            · rw [e]; exact q
            · exact HA.out j (by omega)))
          have i3 := bal hb (.cells (ru_ S.rs k).C 42)
          have x3 := hx.alloc (.cells (ru_ S.rs k).C 42)
          have z3 := Blk.new wr 42 (ru_ S.rs k).C
          clear hS2
          generalize ru_ S.rs k = y at *
          have n3 : (wr.alloc (.cells y.C 42)).cell? ⟨wr.heap.size, 0, none⟩ = some (.string y.nm) := z3.cell 0
          have n4 : (wr.alloc (.cells y.C 42)).cell? ⟨wr.heap.size, 10, none⟩ = some (.string y.lt) := z3.cell 10
          have hy1 : y.nm.size ≤ maxLen := hrb.1
          have hy2 : y.lt.size ≤ maxLen := hrb.2.1
          clear hrb
          unfold maxLen at hy1 hy2
          clear hb hx z3
          by_cases k1 : y.nm.size ≤ 1000
          rotate_left
          · have k1' : (1000 : Int) < (y.nm.size : Int) := by omega
            go_wp2_with (first | refine wpList_at_g rfl 42 _ rfl w.heap.size _ y.C rfl _ hr2 Tryd.underlying42 rfl (by kernel_rfl) ?_ | refine wpList_store_new rfl 42 _ _ rfl rfl wr.heap.size y.C rfl rfl _ #[.string ByteArray.empty, .int .i64 0, .int .i64 0, .int .i64 0, .int .u8 0, .int .i64 0, .int .i64 0, .int .i64 0, .int .u8 0, .int .i64 0, .string ByteArray.empty] wr rfl rfl rfl (by kernel_rfl) (by kernel_rfl) ?_)
            go_ret
            exact ⟨.inl rfl, i3⟩
          have k1' : ¬ (1000 : Int) < (y.nm.size : Int) := by omega
          by_cases k2 : y.lt.size ≤ 1000
          rotate_left
          · have k2' : (1000 : Int) < (y.lt.size : Int) := by omega
            go_wp2_with (first | refine wpList_at_g rfl 42 _ rfl w.heap.size _ y.C rfl _ hr2 Tryd.underlying42 rfl (by kernel_rfl) ?_ | refine wpList_store_new rfl 42 _ _ rfl rfl wr.heap.size y.C rfl rfl _ #[.string ByteArray.empty, .int .i64 0, .int .i64 0, .int .i64 0, .int .u8 0, .int .i64 0, .int .i64 0, .int .i64 0, .int .u8 0, .int .i64 0, .string ByteArray.empty] wr rfl rfl rfl (by kernel_rfl) (by kernel_rfl) ?_)
            go_ret
            exact ⟨.inl rfl, i3⟩
          have k2' : ¬ (1000 : Int) < (y.lt.size : Int) := by omega
          go_wp2_with (first | refine wpList_at_g rfl 42 _ rfl w.heap.size _ y.C rfl _ hr2 Tryd.underlying42 rfl (by kernel_rfl) ?_ | refine wpList_store_new rfl 42 _ _ rfl rfl wr.heap.size y.C rfl rfl _ #[.string ByteArray.empty, .int .i64 0, .int .i64 0, .int .i64 0, .int .u8 0, .int .i64 0, .int .i64 0, .int .i64 0, .int .u8 0, .int .i64 0, .string ByteArray.empty] wr rfl rfl rfl (by kernel_rfl) (by kernel_rfl) ?_)
          go_roundw
          case rel => exact ⟨k + 1, by go_num, by omega, HST.out ⟨k1, k2⟩, i3, x3⟩
          case measure => simp [intOf]; omega
        · obtain rfl : k = h.rn := by omega
          have hlt' : ¬ (h.rn : Int) < (h.rn : Int) := by omega
          have HRA := Lib.hid (show ∀ l ∈ S.rs, RuS l from all_k Ru.nil HSR.out.r.len HA.out)
          have c0 : wr.cell? ⟨w.heap.size, 2, none⟩ = some (.slice h.lA h.ln h.lc) := hx.cell 2
          obtain ⟨W8, rfl⟩ : ∃ W8 : World, W8 = wr := ⟨_, rfl⟩
          clear HA
          go_wp2_with fail
          go_loopw [84] (fun i wr => ∃ k : Nat, i = .int .i64 k ∧ k ≤ h.ln ∧ (∀ j, j < k → LiS (li_ S.ls j)) ∧ Below w.heap.size w wr ∧ Blk wr w.heap.size 26 h.C) (fun i _ => h.ln - (intOf i).toNat)
          case atStart => exact ⟨0, rfl, Nat.zero_le _, fun j hj => absurd hj (Nat.not_lt_zero _), hb, hx⟩
          case round =>
            clear hb hx hlt hlt' hk c0
            obtain ⟨k, rfl, hk, hall, hb, hx⟩ := hrel
            have HA := Lib.hid hall; clear hall
            by_cases hlt : k < h.ln
            · have hlt' : (k : Int) < (h.ln : Int) := by omega
              have hS2 := HSR.out.below hb
              obtain ⟨ae, e0, hr2⟩ : ∃ ad, h.lA = some ad ∧ Row wr w.heap.size (ad.add (k * 2)) (li_ S.ls k).C := hS2.l.row (fun _ => rfl) Li.nil hlt
              rw [e0]
              clear e0
              have hrb := HSR.out.lb _ (show li_ S.ls k ∈ S.ls from getD_mem Li.nil (by rw [hS2.l.len]; exact hlt))
              have HST := Lib.hid (fun (q : LiS (li_ S.ls k)) j (hj : j < k + 1) => (show LiS (li_ S.ls j) by
                by_cases e : j = k
                · rw [e]; exact q
                · exact HA.out j (by omega)))
              have i3 := bal hb (.cells (li_ S.ls k).C 96)
              have x3 := hx.alloc (.cells (li_ S.ls k).C 96)
              have z3 := Blk.new wr 96 (li_ S.ls k).C
              clear hS2
              generalize li_ S.ls k = y at *
              have n3 : (wr.alloc (.cells y.C 96)).cell? ⟨wr.heap.size, 0, none⟩ = some (.string y.tg) := z3.cell 0
              have n4 : (wr.alloc (.cells y.C 96)).cell? ⟨wr.heap.size, 1, none⟩ = some (.string y.nm) := z3.cell 1
              have hy1 : y.tg.size ≤ maxLen := hrb.1
              have hy2 : y.nm.size ≤ maxLen := hrb.2
              clear hrb
              unfold maxLen at hy1 hy2
              clear hb hx z3
              by_cases k1 : y.tg.size ≤ 1000
              rotate_left
              · have k1' : (1000 : Int) < (y.tg.size : Int) := by omega
                go_wp2_with (first | refine wpList_at_g rfl 96 _ rfl w.heap.size _ y.C rfl _ hr2 Tryd.underlying96 rfl (by kernel_rfl) ?_ | refine wpList_store_new rfl 96 _ _ rfl rfl wr.heap.size y.C rfl rfl _ #[.string ByteArray.empty, .string ByteArray.empty] wr rfl rfl rfl (by kernel_rfl) (by kernel_rfl) ?_)
                go_ret
                exact ⟨.inl rfl, i3⟩
              have k1' : ¬ (1000 : Int) < (y.tg.size : Int) := by omega
              by_cases k2 : y.nm.size ≤ 1000
              rotate_left
              · have k2' : (1000 : Int) < (y.nm.size : Int) := by omega
                go_wp2_with (first | refine wpList_at_g rfl 96 _ rfl w.heap.size _ y.C rfl _ hr2 Tryd.underlying96 rfl (by kernel_rfl) ?_ | refine wpList_store_new rfl 96 _ _ rfl rfl wr.heap.size y.C rfl rfl _ #[.string ByteArray.empty, .string ByteArray.empty] wr rfl rfl rfl (by kernel_rfl) (by kernel_rfl) ?_)
                go_ret
                exact ⟨.inl rfl, i3⟩
              have k2' : ¬ (1000 : Int) < (y.nm.size : Int) := by omega
              go_wp2_with (first | refine wpList_at_g rfl 96 _ rfl w.heap.size _ y.C rfl _ hr2 Tryd.underlying96 rfl (by kernel_rfl) ?_ | refine wpList_store_new rfl 96 _ _ rfl rfl wr.heap.size y.C rfl rfl _ #[.string ByteArray.empty, .string ByteArray.empty] wr rfl rfl rfl (by kernel_rfl) (by kernel_rfl) ?_)
              go_roundw
              case rel => exact ⟨k + 1, by go_num, by omega, HST.out ⟨k1, k2⟩, i3, x3⟩
              case measure => simp [intOf]; omega
            · obtain rfl : k = h.ln := by omega
              have hlt' : ¬ (h.ln : Int) < (h.ln : Int) := by omega
              have HLA := Lib.hid (show ∀ l ∈ S.ls, LiS l from all_k Li.nil HSR.out.l.len HA.out)
              clear HA
              go_wp2_with fail
              go_ret
              exact ⟨.inr ⟨rfl, ⟨q1, q2, q3, HZA.out, HRA.out, HLA.out⟩⟩, hb⟩

end Go.Proofs.YtoklcbkphipmkaaDoor.Sr
