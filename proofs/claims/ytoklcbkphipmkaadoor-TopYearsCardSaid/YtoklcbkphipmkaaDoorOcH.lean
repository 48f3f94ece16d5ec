/-
  EVENTS, TOLD AS OCCURRENCES: almanac.told, walked.
-/
import Derived.Test.YtoklcbkphipmkaaDoorOcG
namespace Go.Proofs.YtoklcbkphipmkaaDoor.Oc
open Go.ChangeShapes Go.WideShapes Go.ChangeAt Go.RowKit
open Go.Proofs.YtoklcbkphipmkaaDoor
open Go.Proofs.YtoklcbkphipmkaaDoor.Wd
open Go.Proofs.YtoklcbkphipmkaaDoor.Sr
open Go.Proofs.YtoklcbkphipmkaaDoor.Sl
open Go.Proofs.YtoklcbkphipmkaaDoor.Va (bal bcl)
set_option linter.unusedVariables false
set_option linter.unusedSimpArgs false
/-- an occurrence: its event, and what is saved ahead of it -/
abbrev Oc := Pe × Int
abbrev toC (rs : List Ru) (x : Oc) : Array Value := #[.int .i64 (rT rs x.1), .int .u8 (ru_ rs x.1.1).ck, .int .i64 (ru_ rs x.1.1).sv, .int .i64 x.2, .string (ru_ rs x.1.1).lt]
def Told (rs : List Ru) (L : List Pe) (R : List Oc) : Prop := R.map (·.1) = L ∧ ∀ x ∈ R, ∃ b, LastP rs (x.1.2 + 1) (Qt rs x.1) b ∧ x.2 = svV rs b
theorem Told.nil (rs : List Ru) : Told rs [] [] := ⟨rfl, fun x h => by cases h⟩
theorem Told.len {rs : List Ru} {L : List Pe} {R : List Oc} (h : Told rs L R) : R.length = L.length := by rw [← h.1]; simp
theorem Told.snoc {rs : List Ru} {L : List Pe} {R : List Oc} {e : Pe} {b : Option Pe} (h : Told rs L R) (hb : LastP rs (e.2 + 1) (Qt rs e) b) : Told rs (L ++ [e]) (R ++ [(e, svV rs b)]) := by
  refine ⟨by rw [List.map_append, h.1]; rfl, fun x hx => ?_⟩
  rcases List.mem_append.1 hx with q | q
  · exact h.2 x q
  · have : x = (e, svV rs b) := by simpa using q
    subst this
    exact ⟨b, hb, rfl⟩
theorem info_oc : (Tryd.prog.info? 49).map (fun i => (i.zero, i.size, i.bytes)) = some (some (.agg #[.int .i64 0, .int .u8 0, .int .i64 0, .int .i64 0, .string ⟨#[]⟩]), 5, 48) := by kernel_rfl
theorem evO_cells (rs : List Ru) (b : Option Pe) : ∃ a1 a2 a4 a5 a6 a7, evO rs b = #[.int .i64 a1, .int .u8 a2, .int .i64 (svV rs b), .int .i64 a4, .string a5, .int .i64 a6, .int .i64 a7] := by
  cases b with
  | none => exact ⟨_, _, _, _, _, _, rfl⟩
  | some b => exact ⟨_, _, _, _, _, _, rfl⟩
/-- what told answers -/
def ToP (w : World) (X : Nat → Prop) (base p mb n c : Nat) (A PA : Option Addr) (pn pc : Nat) (rs : List Ru) (L : List Pe) (e : Ending) (w' : World) : Prop :=
  ∃ (g : Nat) (R : List Oc), e = .returned (.slice (some ⟨g, 0, none⟩) L.length L.length) ∧ Told rs L R ∧ Sls (toC rs) 5 w' w'.heap.size (some ⟨g, 0, none⟩) L.length R ∧ Alm w' X base p mb n c A PA pn pc rs ∧ But mb w.heap.size w w' ∧ w.heap.size ≤ g
set_option maxRecDepth 100000 in
set_option maxHeartbeats 12800000 in
theorem told_any (X : Nat → Prop) (base p mb n c : Nat) (A PA : Option Addr) (pn pc : Nat) (rs : List Ru) (A' : Option Addr) (N c' : Nat) (L : List Pe) (w : World) (al : Alm w X base p mb n c A PA pn pc rs) (hok : Ok rs) (hS : Sls (evC rs) 7 w w.heap.size A' N L) (hO : ∀ e ∈ L, Occ rs e) (hN : N ≤ 100000) :
    Calls Tryd.prog 23 #[.pointer (some ⟨p, 0, none⟩), .slice A' N c'] w (ToP w X base p mb n c A PA pn pc rs L) := by
  obtain ⟨i0, hi0, hz0, hz1, hz2⟩ := info_parts info_oc
  have HI := Lib.hid hi0; clear hi0
  have hLn := hS.len
  have hmap := al.map
  have HOO := Lib.hid hO; clear hO
  go_enter Tryd.func23, Tryd.ntmps23
  go_upto_region 2 with (at_make; refine wpList_make_own _ rfl _ _ 46 rfl w.heap.size 49 i0 _ 5 Tryd.underlying46 HI.out hz0 hz1 .i64 .i64 _ N rfl rfl rfl (by rw [hz2]; omega) (by unfold maxLen; omega) (Nat.le_refl _) ?_; intro w1 o1 g1; have HG1 := Lib.hid g1; clear g1)
  have b1 : Below w.heap.size w w1 := (Below.refl _ w).grown HG1.out (Nat.le_refl _) (fun k e => by cases e)
  have hlt1 := (own_ge o1 w.heap.size rfl).2
  obtain ⟨X1, a1, hx0, hx1⟩ : ∃ X1, Alm w1 X1 base p mb n c A PA pn pc rs ∧ (∀ b, X b → X1 b) ∧ X1 w.heap.size := ⟨_, al.wide (Kp.of b1) (Y := fun b => b = w.heap.size) (fun b q => ⟨Nat.le_of_eq q.symm, q ▸ hlt1⟩), fun b q => .inl q, .inr rfl⟩
  have hbw := al.bw; have hmb := al.mlt
  clear HG1 al
  have bt1 : But mb w.heap.size w w1 := But.of b1
  clear b1 hlt1
  go_upto_region 3 with fail
  go_loopw [5, 7, 8, 9, 10, 16] (fun v _ _ _ _ i wr => ∃ (k : Nat) (R : List Oc), i = .int .i64 (k : Int) ∧ v = .slice (some ⟨w.heap.size, 0, none⟩) k N ∧ k ≤ N ∧ Told rs (L.take k) R ∧ wr.ownsRow w.heap.size 49 5 (.slice (some ⟨w.heap.size, 0, none⟩) k N) k (flat (toC rs) R) ∧ Alm wr X1 base p mb n c A PA pn pc rs ∧ But mb w.heap.size w wr) (fun _ _ _ _ _ i _ => N - (intOf i).toNat)
  case atStart => exact ⟨0, [], rfl, rfl, Nat.zero_le _, Told.nil rs, o1, a1, bt1⟩
  case round =>
    clear o1 a1 bt1
    obtain ⟨k, R, rfl, rfl, hk, hT, o, al, bt⟩ := hrel
    have HT := Lib.hid hT; clear hT
    by_cases hlt : k < N
    · have hltI : (k : Int) < (N : Int) := by omega
      have hkl : k < L.length := by omega
      obtain ⟨ad, eA, hrow⟩ := (sls_but hS hmap bt (Nat.le_refl _)).row (fun _ => rfl) (0, 0) hlt
      subst eA
      have HTK := Lib.hid (getD_take (L := L) (0, 0) hkl)
      have hoc := HOO.out _ (getD_mem (L := L) (0, 0) hkl)
      have hyr := occ_year hok hoc
      obtain ⟨e, he⟩ : ∃ e, L.getD k (0, 0) = e := ⟨_, rfl⟩
      rw [he] at hrow hoc hyr HTK
      clear he
      have hb0 := bal (Below.refl _ wr) (.cells (evC rs e) 80)
      have x0 := Blk.new wr 80 (evC rs e); have o0 := own_below o hb0; have al0 := al.below hb0; have bt0 := bt.and hb0 (Nat.le_refl _)
      go_upto_region 5 with (first | (refine wpList_at_g rfl 80 _ rfl _ _ (evC rs e) rfl _ hrow Tryd.underlying80 rfl (by kernel_rfl) ?_) | (refine wpList_store_new rfl 80 _ _ rfl rfl wr.heap.size (evC rs e) rfl rfl _ evZ wr rfl rfl rfl (by kernel_rfl) (ev_one rs _) ?_))
      clear hb0 o al bt hrow
      generalize wr.alloc (.cells (evC rs e) 80) = W at *
      obtain ⟨q, hq⟩ : ∃ q, wr.heap.size = q := ⟨_, rfl⟩
      simp only [hq] at x0 ⊢
      clear hq
      have c6 : W.cell? ⟨q, 6, none⟩ = some (.int .i64 e.2) := x0.cell 6
      have hla := lat_any X1 base p mb n c A PA pn pc rs (e.2 + 1) e q W al0 hok ⟨by omega, by omega⟩ x0
      go_wp2_with fail
      refine hla.mono ?_; rintro x W2 ⟨b, rfl, hb, al2, bt2⟩
      have x2 := Blk.but x0 al0.map bt2 x0.lt
      have o2 : W2.ownsRow w.heap.size 49 5 (.slice (some ⟨w.heap.size, 0, none⟩) k N) k (flat (toC rs) R) := own_of_heap o0 (fun g hg => bt2.block g (own_ge o0 g hg).2 (by have := (own_ge o0 g hg).1; omega))
      have B2 := bt0.andB bt2 (Nat.le_refl _)
      have HT2 := Lib.hid (HT.out.snoc hb)
      clear hb bt2 al0 o0 bt0 hla c6 x0
      obtain ⟨a1, a2, a4, a5, a6, a7, hE⟩ := evO_cells rs b
      obtain ⟨T, K, S, LT, hC1, hC2⟩ : ∃ T K S LT, evC rs e = #[.int .i64 T, .int .u8 K, .int .i64 S, .int .i64 0, .string LT, .int .i64 (e.1 : Nat), .int .i64 e.2] ∧ ∀ s, toC rs (e, s) = #[.int .i64 T, .int .u8 K, .int .i64 S, .int .i64 s, .string LT] := ⟨_, _, _, _, rfl, fun _ => rfl⟩
      rw [hE]
      rw [hC1] at x2
      have HC2 := Lib.hid hC2; clear hC1 hC2 hE
      generalize svV rs b = s at *
      generalize b.isSome = bo at *
      have hb3 := bal (Below.refl _ W2) (.cells #[.int .i64 a1, .int .u8 a2, .int .i64 s, .int .i64 a4, .string a5, .int .i64 a6, .int .i64 a7] 80)
      have x3 := x2.alloc (.cells #[.int .i64 a1, .int .u8 a2, .int .i64 s, .int .i64 a4, .string a5, .int .i64 a6, .int .i64 a7] 80); have o3 := o2.alloc (.cells #[.int .i64 a1, .int .u8 a2, .int .i64 s, .int .i64 a4, .string a5, .int .i64 a6, .int .i64 a7] 80); have al3 := al2.alloc (.cells #[.int .i64 a1, .int .u8 a2, .int .i64 s, .int .i64 a4, .string a5, .int .i64 a6, .int .i64 a7] 80); have B3 := B2.alloc (Nat.le_refl _) (.cells #[.int .i64 a1, .int .u8 a2, .int .i64 s, .int .i64 a4, .string a5, .int .i64 a6, .int .i64 a7] 80); have y3 := Blk.new W2 80 #[.int .i64 a1, .int .u8 a2, .int .i64 s, .int .i64 a4, .string a5, .int .i64 a6, .int .i64 a7]
      clear x2 o2 al2 B2
      go_upto_region 6 with (refine wpList_store_new rfl 80 _ _ rfl rfl W2.heap.size #[.int .i64 a1, .int .u8 a2, .int .i64 s, .int .i64 a4, .string a5, .int .i64 a6, .int .i64 a7] rfl rfl _ evZ W2 rfl rfl rfl (by kernel_rfl) (by simp [Value.oneCell']) ?_)
      clear hb3
      generalize W2.alloc (.cells #[.int .i64 a1, .int .u8 a2, .int .i64 s, .int .i64 a4, .string a5, .int .i64 a6, .int .i64 a7] 80) = W3 at *
      obtain ⟨q2, hq2⟩ : ∃ q, W2.heap.size = q := ⟨_, rfl⟩
      simp only [hq2] at y3 ⊢
      clear hq2
      have c2 : (W3.alloc (.cells #[.int .i64 T, .int .u8 K, .int .i64 S, .int .i64 0, .string LT] 49)).cell? ⟨q2, 2, none⟩ = some (.int .i64 s) := (y3.alloc (.cells #[.int .i64 T, .int .u8 K, .int .i64 S, .int .i64 0, .string LT] 49)).cell 2
      go_upto_region 7 with (first | (refine wpList_seg_g rfl 49 _ rfl q 0 #[.int .i64 T, .int .u8 K, .int .i64 S, .int .i64 0, .string LT] rfl _ _ _ _ x3 Tryd.underlying49 rfl (by kernel_rfl) (by rfl) ?_) | (refine wpList_store_new rfl 49 _ _ rfl rfl W3.heap.size #[.int .i64 T, .int .u8 K, .int .i64 S, .int .i64 0, .string LT] rfl rfl _ #[.int .i64 0, .int .u8 0, .int .i64 0, .int .i64 0, .string ⟨#[]⟩] W3 rfl rfl rfl (by kernel_rfl) (by simp [Value.oneCell']) ?_))
      go_upto_region 8 with fail
      have hb4 := bal (Below.refl _ W3) (.cells #[.int .i64 T, .int .u8 K, .int .i64 S, .int .i64 s, .string LT] 49)
      have o4 := own_below o3 hb4; have al4 := al3.below hb4; have B4 := B3.and hb4 (Nat.le_refl _); have z4 := Blk.new W3 49 #[.int .i64 T, .int .u8 K, .int .i64 S, .int .i64 s, .string LT]
      clear o3 al3 B3 x3 y3 c2 hb4
      generalize W3.alloc (.cells #[.int .i64 T, .int .u8 K, .int .i64 S, .int .i64 s, .string LT] 49) = W4 at *
      have hb5 := bal (Below.refl _ W4) (.cells #[.int .i64 T, .int .u8 K, .int .i64 S, .int .i64 s, .string LT] 49)
      have o5 := own_below o4 hb5; have al5 := al4.below hb5; have B5 := B4.and hb5 (Nat.le_refl _); have z5 := Blk.new W4 49 #[.int .i64 T, .int .u8 K, .int .i64 S, .int .i64 s, .string LT]
      have hcells : ∀ j u, (#[.int .i64 T, .int .u8 K, .int .i64 S, .int .i64 s, .string LT] : Array Value).toList[j]? = some u → (W4.alloc (.cells #[.int .i64 T, .int .u8 K, .int .i64 S, .int .i64 s, .string LT] 49)).cell? ((⟨W4.heap.size, 0, none⟩ : Addr).add j) = some u := fun j u hu => by
        rw [show (⟨W4.heap.size, 0, none⟩ : Addr).add j = ⟨W4.heap.size, j, none⟩ by unfold Addr.add; split <;> simp_all, z5.cell, ← hu, Array.getElem?_toList]
      have HCC := Lib.hid hcells; clear hcells z5 hb5
      go_wp2_with (first | (refine wpList_row_g rfl 49 _ rfl _ rfl _ _ _ _ z4 Tryd.underlying49 rfl (by kernel_rfl) ?_) | (at_builtin; refine wpList_append_fits _ rfl _ _ 46 rfl w.heap.size 49 i0 5 Tryd.underlying46 HI.out hz1 w.heap.size k N _ rfl o5 _ 1 1 _ rfl rfl HCC.out (by intro u hu; simp at hu; rcases hu with rfl | rfl | rfl | rfl | rfl <;> rfl) (by omega) ?_; intro w6 o6 g6; have HG := Lib.hid g6; clear g6))
      have al6 := al5.kp (Kp.grown HG.out (fun k e => by injection e with e; exact e ▸ hx1))
      have B6 := B5.grown HG.out (Nat.le_refl _) (fun k e => .inl (by injection e with e; omega))
      have HR := Lib.hid (show w6.ownsRow w.heap.size 49 5 (.slice (some ⟨w.heap.size, 0, none⟩) (k + 1) N) (k + 1) (flat (toC rs) (R ++ [(e, s)])) from by rw [flat_append, flat_one, HC2.out]; exact o6)
      clear o6 o5 o4 al5 al4 B5 B4 z4
      go_wp2_with fail
      go_roundw
      case rel => exact ⟨k + 1, R ++ [(e, s)], by go_num, rfl, by omega, by rw [HTK.out]; exact HT2.out, HR.out, al6, B6⟩
      case measure => simp [intOf]; omega
    · obtain rfl : k = N := by omega
      have hltI : ¬ (k : Int) < (k : Int) := by omega
      have HE := Lib.hid (show L.take k = L from List.take_of_length_le (by omega))
      have hS2 := Sls.of_own (L := R) (by rw [HT.out.len, HE.out]; exact hLn) o
      go_wp2_with fail
      go_ret
      exact ⟨w.heap.size, R, by rw [hLn]; rfl, by rw [← HE.out]; exact HT.out, by rw [hLn]; exact hS2, al.less hx0, bt, Nat.le_refl _⟩
end Go.Proofs.YtoklcbkphipmkaaDoor.Oc
