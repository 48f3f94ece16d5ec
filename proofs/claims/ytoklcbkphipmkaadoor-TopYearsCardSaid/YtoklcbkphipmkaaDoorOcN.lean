/-
  THE RULES OF A NAME: source.Rules, walked.
-/
import Derived.Test.YtoklcbkphipmkaaDoorOcK
namespace Go.Proofs.YtoklcbkphipmkaaDoor.Oc
open Go.ChangeShapes Go.WideShapes Go.ChangeAt Go.RowKit
open Go.Proofs.YtoklcbkphipmkaaDoor
open Go.Proofs.YtoklcbkphipmkaaDoor.Wd
open Go.Proofs.YtoklcbkphipmkaaDoor.Sr
open Go.Proofs.YtoklcbkphipmkaaDoor.Sl
open Go.Proofs.YtoklcbkphipmkaaDoor.Va (bal bcl)
set_option linter.unusedVariables false
set_option linter.unusedSimpArgs false
theorem info_ru : (Tryd.prog.info? 42).map (fun i => (i.zero, i.size, i.bytes)) = some (some (.agg ruZ), 11, 104) := by kernel_rfl
theorem ru_one (r : Ru) : r.C.all (·.oneCell') = true := by simp [Value.oneCell']
/-- the rules of a name, of the first ones -/
def nmK (l : List Ru) (s : ByteArray) (k : Nat) : List Ru := (l.take k).filter fun r => decide (r.nm.toList = s.toList)
theorem nmK_yes {l : List Ru} {s : ByteArray} {k : Nat} {r : Ru} (h : k < l.length) (hr : ru_ l k = r) (e : r.nm.toList = s.toList) : nmK l s (k + 1) = nmK l s k ++ [r] := by
  subst hr; unfold nmK; rw [getD_take Ru.nil h, List.filter_append, List.filter_cons, if_pos (decide_eq_true e)]; rfl
theorem nmK_no {l : List Ru} {s : ByteArray} {k : Nat} {r : Ru} (h : k < l.length) (hr : ru_ l k = r) (e : ¬ r.nm.toList = s.toList) : nmK l s (k + 1) = nmK l s k := by
  subst hr; unfold nmK; rw [getD_take Ru.nil h, List.filter_append, List.filter_cons, if_neg (by rw [decide_eq_true_iff]; exact e)]; simp
theorem nmK_len (l : List Ru) (s : ByteArray) (k : Nat) : (nmK l s k).length ≤ k := by
  have h := List.length_filter_le (fun r : Ru => decide (r.nm.toList = s.toList)) (l.take k)
  unfold nmK; rw [List.length_take] at h; omega
theorem nmK_mem {l : List Ru} {s : ByteArray} {k : Nat} {r : Ru} (h : r ∈ nmK l s k) : r ∈ l := List.mem_of_mem_take (List.mem_filter.1 h).1
set_option maxRecDepth 100000 in
set_option maxHeartbeats 6400000 in
theorem rules_any (h : Hd) (S : So) (s : ByteArray) (w : World) (hS : SoR w w.heap.size h S) (hn : h.rn ≤ 1000) :
    Calls Tryd.prog 7 #[h.V, .string s] w fun e w' => Below w.heap.size w w' ∧ ∃ (A : Option Addr) (c : Nat), e = .returned (.slice A (nmK S.rs s S.rs.length).length c) ∧ Sls Ru.C 11 w' w'.heap.size A (nmK S.rs s S.rs.length).length (nmK S.rs s S.rs.length) := by
  obtain ⟨i0, hi0, hz0, hz1, hz2⟩ := info_parts info_ru
  have HI := Lib.hid hi0; clear hi0
  obtain ⟨rA, rn, rc, zA, zn, zc, lA, ln, lc⟩ := h
  have hr := hS.r
  dsimp only at hr hn
  have hlen := hr.len
  have x0 := Blk.new w 26 #[.slice rA rn rc, .slice zA zn zc, .slice lA ln lc]
  have b0 := bal (Below.refl _ w) (.cells #[.slice rA rn rc, .slice zA zn zc, .slice lA ln lc] 26)
  have c0 : (w.alloc (.cells #[.slice rA rn rc, .slice zA zn zc, .slice lA ln lc] 26)).cell? ⟨w.heap.size, 0, none⟩ = some (.slice rA rn rc) := x0.cell 0
  go_enter Tryd.func7, Tryd.ntmps7
  go_upto_region 3 with fail
  generalize w.alloc (.cells #[.slice rA rn rc, .slice zA zn zc, .slice lA ln lc] 26) = W at *
  clear c0 x0
  go_loopw [5, 7, 11] (fun v _ i wr => ∃ k : Nat, i = .int .i64 (k : Int) ∧ k ≤ rn ∧ wr.ownsRow w.heap.size 42 11 v (nmK S.rs s k).length (flat Ru.C (nmK S.rs s k)) ∧ Below w.heap.size w wr) (fun _ _ i _ => rn - (intOf i).toNat)
  case atStart => exact ⟨0, rfl, Nat.zero_le _, ⟨rfl, .inl ⟨rfl, rfl⟩⟩, b0⟩
  case round =>
    clear b0
    obtain ⟨k, rfl, hk, o, b⟩ := hrel
    have hkl2 := nmK_len S.rs s k
    by_cases hlt : k < rn
    · have hltI : (k : Int) < (rn : Int) := by omega
      obtain ⟨ad, eA, hrow⟩ := (hr.below b).row (fun _ => rfl) Ru.nil hlt
      subst eA
      have hkl : k < S.rs.length := by omega
      obtain ⟨r, hr1⟩ : ∃ r, ru_ S.rs k = r := ⟨_, rfl⟩
      rw [show S.rs.getD k Ru.nil = r from hr1] at hrow
      have HKY := Lib.hid (fun h => nmK_yes (s := s) hkl hr1 h); have HKN := Lib.hid (fun h => nmK_no (s := s) hkl hr1 h)
      clear hr1
      obtain ⟨N, hN⟩ : ∃ N, (nmK S.rs s k).length = N := ⟨_, rfl⟩
      obtain ⟨xs, hxs⟩ : ∃ xs, flat Ru.C (nmK S.rs s k) = xs := ⟨_, rfl⟩
      rw [hN, hxs] at o
      rw [hN] at hkl2
      have HN := Lib.hid hN; have HX := Lib.hid hxs; clear hN hxs
      have hb1 := bal (Below.refl _ wr) (.cells r.C 42); have y1 := Blk.new wr 42 r.C
      have o1 := own_below o hb1; have b1 := bcl b hb1
      clear o b hb1
      go_upto_region 5 with (first | (refine wpList_at_g rfl 42 _ rfl _ _ r.C rfl _ hrow Tryd.underlying42 rfl (by kernel_rfl) ?_) | (refine wpList_store_new rfl 42 _ _ rfl rfl wr.heap.size r.C rfl rfl _ ruZ wr rfl rfl rfl (by kernel_rfl) (by kernel_rfl) ?_))
      clear hrow
      generalize wr.alloc (.cells r.C 42) = V at *
      obtain ⟨q, hq⟩ : ∃ q, wr.heap.size = q := ⟨_, rfl⟩
      simp only [hq] at y1 ⊢
      clear hq
      have d0 : V.cell? ⟨q, 0, none⟩ = some (.string r.nm) := y1.cell 0
      by_cases he : r.nm.toList = s.toList
      · have heb : (r.nm.toList == s.toList) = true := by rw [he]; simp
        have HK := Lib.hid (HKY.out he); clear HKY HKN he
        have o2 := own_below o1 (bal (Below.refl _ V) (.cells r.C 42)); have b2 := bal b1 (.cells r.C 42)
        have hnew := Reads.of_own (w := V.alloc (.cells r.C 42)) (base := 0) (e := 42) (size := 11) (A := some ⟨V.heap.size, 0, none⟩) (n := 1) (c := 1) (xs := r.C.toList) ⟨rfl, .inr ⟨V.heap.size, 1, r.C, rfl, Nat.zero_le _, heap_alloc_new V _, Nat.le_refl _, by unfold maxLen; omega, rfl, rfl⟩⟩
        have hone : ∀ u ∈ r.C.toList, u.oneCell' = true := fun u hu => (Array.all_eq_true_iff_forall_mem.1 (ru_one r)) u (by simpa using hu)
        have HONE := Lib.hid hone; have B2 := Lib.hid b2.size; clear hone
        go_wp2_with (first | (refine wpList_row_g rfl 42 _ rfl _ rfl _ _ _ _ y1 Tryd.underlying42 rfl (by kernel_rfl) ?_) | (at_builtin; refine wpList_append_any _ rfl _ _ 22 rfl w.heap.size 42 i0 _ 11 104 Tryd.underlying22 HI.out hz0 hz1 hz2 rfl (by decide) _ N _ rfl o2 _ _ 1 1 _ rfl hnew HONE.out (by unfold maxLen; omega) (by omega) B2.out ?_; intro v5 w5 o5 g5 _; have HG := Lib.hid g5; clear g5))
        have b5 := b2.grown HG.out B2.out (fun k e => (own_ge o2 k e).1)
        have HR := Lib.hid (show w5.ownsRow w.heap.size 42 11 v5 (nmK S.rs s (k + 1)).length (flat Ru.C (nmK S.rs s (k + 1))) from by rw [HK.out, List.length_append, HN.out, flat_append, flat_one, HX.out]; exact o5)
        clear o5 o2 o1 hnew y1 b2 b1
        go_wp2_with fail
        go_roundw
        case rel => exact ⟨k + 1, by go_num, by omega, HR.out, b5⟩
        case measure => simp [intOf]; omega
      · have HK := Lib.hid (HKN.out he); clear HKY HKN
        have HR := Lib.hid (show V.ownsRow w.heap.size 42 11 _ (nmK S.rs s (k + 1)).length (flat Ru.C (nmK S.rs s (k + 1))) from by rw [HK.out, HN.out, HX.out]; exact o1)
        have heb : (r.nm.toList == s.toList) = false := by rw [beq_eq_false_iff_ne]; exact he
        clear o1 he
        go_wp2_with fail
        go_roundw
        case rel => exact ⟨k + 1, by go_num, by omega, HR.out, b1⟩
        case measure => simp [intOf]; omega
    · obtain rfl : k = rn := by omega
      have hltI : ¬ (k : Int) < (k : Int) := by omega
      obtain ⟨A, c, rfl⟩ := own_slice o
      have hS2 := Sls.of_own rfl o
      go_wp2_with fail
      go_ret
      exact ⟨b, A, ⟨c, rfl⟩, hS2⟩
end Go.Proofs.YtoklcbkphipmkaaDoor.Oc
