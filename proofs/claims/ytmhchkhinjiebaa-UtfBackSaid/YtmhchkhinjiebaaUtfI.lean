/-
  utf's STATEMENTS (2): UtfBack, walked.
-/
import Derived.Test.YtmhchkhinjiebaaUtfH
namespace Go.Proofs.Ytmhchkhinjiebaa.Utf
open Go.ChangeShapes Go.WideShapes Go.ChangeAt Go.RowKit
open Go.Proofs.Ytmhchkhinjiebaa.Wd
set_option linter.unusedVariables false
/-- the characters among numbers -/
def gd (cs : List Int) : List Nat := (cs.filter Utf8.valid).map Int.toNat
theorem gd_snoc (cs : List Int) (c : Int) : gd (cs ++ [c]) = gd cs ++ if Utf8.valid c = true then [c.toNat] else [] := by
  unfold gd
  rw [List.filter_append, List.map_append]
  congr 1
  by_cases h : Utf8.valid c = true <;> simp [h]
theorem gd_val (cs : List Int) : ∀ c ∈ gd cs, val c = true := by
  intro c hc
  unfold gd at hc
  obtain ⟨x, hx, rfl⟩ := List.mem_map.1 hc
  have h := (List.mem_filter.1 hx).2
  have h0 : ((x.toNat : Nat) : Int) = x := by rw [valid_iff] at h; omega
  rw [← valid_val, h0]; exact h
theorem enc_le (c : Nat) : (enc c).length ≤ 4 := by unfold enc; repeat' split
                                                    all_goals simp
theorem encs_le (cs : List Nat) : (encs cs).length ≤ 4 * cs.length := by
  induction cs with
  | nil => simp [encs]
  | cons c cs ih =>
    have e : encs (c :: cs) = enc c ++ encs cs := rfl
    have := enc_le c
    rw [e, List.length_append, List.length_cons]; omega
theorem encs_snoc (cs : List Nat) (c : Nat) : encs (cs ++ [c]) = encs cs ++ enc c := by simp [encs]
theorem gd_len (cs : List Int) : (gd cs).length ≤ cs.length := by
  unfold gd; rw [List.length_map]; exact List.length_filter_le _ _
theorem L_append (a b : ByteArray) : L (a ++ b) = L a ++ L b := by
  unfold L; simp
theorem L_encS {c : Int} (h : Utf8.valid c = true) : L (encS c) = enc c.toNat := by
  have h0 : ((c.toNat : Nat) : Int) = c := by rw [valid_iff] at h; omega
  have hv : val c.toNat = true := by rw [← valid_val, h0]; exact h
  have e := encS_L hv
  rw [h0, Lib.toList_data] at e
  exact e
/-- what is read back of the characters' bytes -/
theorem all_back (cs : List Int) : B (encs (gd cs)) = none ∧ R (encs (gd cs)) = gd cs ∧ res (encs (gd cs)) = (gd cs).map (fun c : Nat => (c : Int)) ∧ chkE (encs (gd cs)) = 0 := by
  have h := encs_ok (gd cs) (encs (gd cs)).length (gd_val cs) (Nat.le_refl _)
  have h1 : B (encs (gd cs)) = none := h.1
  have h2 : R (encs (gd cs)) = gd cs := h.2
  refine ⟨h1, h2, ?_, (res_ok h1).2⟩
  rw [(res_ok h1).1, h2]
/-- what is ahead of the place that is told is right, and changes nothing of what is behind -/
theorem ahead (s t : List UInt8) (k : Nat) (h : B s = some k) : k < s.length ∧ chkE (s.take k) = 0 ∧ chkE (s.take k ++ t) = chkE t := by
  obtain ⟨h1, h2, cs, h3, h4⟩ := bad_split s.length s k (Nat.le_refl _) h
  have hok := encs_ok cs (encs cs).length h3 (Nat.le_refl _)
  refine ⟨h1, ?_, ?_⟩
  · rw [h4]; exact (res_ok (l := encs cs) hok.1).2
  · rw [h4]
    have hb := bad_behind cs t h3 (encs cs ++ t).length (Nat.le_refl _)
    have hb' : B (encs cs ++ t) = (B t).map (· + (encs cs).length) := by
      unfold B; rw [hb, bad_fuel _ t.length t (by simp) (Nat.le_refl _)]
    unfold chkE; rw [hb']; cases B t <;> rfl
-- the walks
set_option maxRecDepth 100000 in
set_option maxHeartbeats 6400000 in
theorem back_bad (A : Option Addr) (n c : Nat) (cs : List Int) (s t : ByteArray) (w : World) (hl : Reads w w.heap.size 1 A n (iz cs)) (hs : s.size ≤ 8192) (ht : t.size ≤ 8192) (hn : n ≤ 100) (k0 : Nat) (hB : B (L s) = some k0) :
    Calls Try.prog 4 #[.slice A n c, .string s, .string t] w fun e w' => e = .returned (.bool true) ∧ Below w.heap.size w w' := by
  have lx : cs.length = n := by have := hl.1; simpa [iz] using this
  have LX := Lib.hid lx; clear lx
  obtain ⟨i0, hi, hz0, hz1, hz2⟩ := info_parts int_info
  have hEs : chkE (L s) = 11 := (res_bad hB).2
  have hIs : ((chkI (L s) : Nat) : Int) = (k0 : Int) := by unfold chkI; rw [hB]; rfl
  obtain ⟨ha1, ha2, ha3⟩ := ahead (L s) (L t) k0 hB
  rw [L_len] at ha1
  have ha1' : (k0 : Int) < (s.size : Int) := by omega
  have ha1'' : ¬ (s.size : Int) ≤ (k0 : Int) := by omega
  have hk00 : ¬ (k0 : Int) < 0 := by omega
  have hx1 : L (s.extract 0 k0) = (L s).take k0 := by unfold L; rw [Lib.extract_data]; simp
  have hx2 : L (s.extract 0 k0 ++ t) = (L s).take k0 ++ L t := by rw [L_append, hx1]
  have hs1 : (s.extract 0 k0).size ≤ 8192 := by rw [← L_len, hx1, List.length_take, L_len]; omega
  have hs2 : (s.extract 0 k0 ++ t).size ≤ 16384 := by
    rw [← L_len, hx2, List.length_append, L_len, ← hx1, L_len]; omega
  have c1 : chkE (L (s.extract 0 k0)) = 0 := by rw [hx1]; exact ha2
  have c2 : chkE (L (s.extract 0 k0 ++ t)) = chkE (L t) := by rw [hx2]; exact ha3
  clear ha2 ha3 hx1 hx2 hB
  go_enter Try.func4, Try.ntmps4
  go_wp2_with fail
  refine (lives_any _).mono ?_; rintro e w1 ⟨rfl, hB1⟩
  have HL := Lib.hid (hl.below (hB1.mono (Nat.le_refl _))); clear hl
  go_wp2_with fail
  go_loopw [7, 8, 10, 11, 12, 47] (fun a v _ _ _ i w' => ∃ (k : Nat) (x : ByteArray), i = .int .i64 k ∧ k ≤ n ∧ a = .string x ∧ L x = encs (gd (cs.take k)) ∧ w'.ownsRow w1.heap.size 3 1 v (gd (cs.take k)).length (iv (gd (cs.take k))) ∧ Below w1.heap.size w1 w') (fun _ _ _ _ _ i _ => n - (intOf i).toNat)
  case atStart => exact ⟨0, ⟨#[]⟩, rfl, Nat.zero_le _, rfl, rfl, World.ownsRow_nil _ _ _ _, Below.refl _ _⟩
  case round =>
    obtain ⟨k, x, rfl, hk, rfl, hx, hown, hbw⟩ := hrel
    have HX := Lib.hid hx; clear hx
    have hsz1 := hB1.size
    have hszw := hbw.size
    have hxs : x.size ≤ 400 := by
      have h1 := L_len x
      have h2 := encs_le (gd (cs.take k))
      have h3 := gd_len (cs.take k)
      have h4 : (cs.take k).length ≤ k := List.length_take_le _ _
      rw [HX.out] at h1
      omega
    by_cases hlt : k < n
    · have hgl : (gd (cs.take k)).length ≤ 100 := by
        have h3 := gd_len (cs.take k)
        have h4 : (cs.take k).length ≤ k := List.length_take_le _ _
        omega
      obtain ⟨ad, rfl, hc1⟩ := iz_at (HL.out.below (hbw.mono (by omega))) hlt
      have hkl : k < cs.length := by rw [LX.out]; exact hlt
      have ht1 : cs.take (k + 1) = cs.take k ++ [cs[k]?.getD 0] := by rw [List.take_succ_eq_append_getElem hkl, List.getElem?_eq_getElem hkl]; rfl
      have HT := Lib.hid ht1; clear ht1
      generalize cs[k]?.getD 0 = c at *
      have h0 : (0 : Int) ≤ (k : Int) := by omega
      have h1 : (k : Int) < (n : Int) := by omega
      by_cases hv : Utf8.valid c = true
      · have hg : gd (cs.take (k + 1)) = gd (cs.take k) ++ [c.toNat] := by rw [HT.out, gd_snoc, if_pos hv]
        have HG := Lib.hid hg; clear hg
        have hE : encE c = 0 := by unfold encE; rw [if_pos hv]
        have HE := Lib.hid (L_encS hv)
        have hes : (encS c).size ≤ 4 := by rw [← L_len, L_encS hv]; exact enc_le _
        have hcn : ((c.toNat : Nat) : Int) = c := by rw [valid_iff] at hv; omega
        have HCN := Lib.hid hcn; clear hcn hv
        go_wp2_with (first
          | (go_at_call 6; refine (enc_any _ _).mono ?_; rintro e w2 ⟨rfl, rfl⟩; rw [hE])
          | (at_builtin; refine wpList_append_own _ rfl _ _ 28 rfl w1.heap.size 3 i0 (.int .i64 0) 1 8 Try.underlying28 hi hz0 hz1 hz2 rfl (by decide) _ _ _ rfl (hown.alloc _) ⟨wr.heap.size, 0, none⟩ 1 1 [.int .i64 c] rfl rfl (one_cell _ _ _) (one_one _) (by unfold maxLen; omega) (by omega) (by simp; omega) ?_; intro v' w2 hown' hgrow _))
        have hge := own_block_ge (hown.alloc (.cells #[Value.int .i64 c] 3))
        have hb3 : Below w1.heap.size w1 w2 := (hbw.alloc hszw _).grown hgrow (by simp; omega) (fun q hq => hge _ hq)
        have hown2 : w2.ownsRow w1.heap.size 3 1 v' (gd (cs.take (k + 1))).length (iv (gd (cs.take (k + 1)))) := by
          rw [HG.out, iv_snoc, List.length_append, HCN.out]; exact hown'
        have hxx : L (x ++ encS c) = encs (gd (cs.take (k + 1))) := by rw [L_append, HX.out, HE.out, HG.out, encs_snoc]
        clear hown' hgrow hge hown hbw
        go_wp2
        go_roundw
        case rel => exact ⟨k + 1, _, by go_num, by omega, rfl, hxx, hown2, hb3⟩
        case measure => simp [intOf]; omega
      · have hg : gd (cs.take (k + 1)) = gd (cs.take k) := by rw [HT.out, gd_snoc, if_neg hv, List.append_nil]
        have HG := Lib.hid hg; clear hg
        have hE : encE c = 1 := by unfold encE; rw [if_neg hv]
        clear hv
        go_wp2_with (go_at_call 6; refine (enc_any _ _).mono ?_; rintro e w2 ⟨rfl, rfl⟩; rw [hE])
        go_roundw
        case rel => exact ⟨k + 1, x, by go_num, by omega, rfl, by rw [HG.out]; exact HX.out, by rw [HG.out]; exact hown, hbw⟩
        case measure => simp [intOf]; omega
    · obtain rfl : k = n := by omega
      have h1 : ¬ (k : Int) < (k : Int) := by omega
      have hta : cs.take k = cs := List.take_of_length_le (by rw [LX.out]; omega)
      rw [hta] at hown
      have HX2 : L x = encs (gd cs) := by rw [← hta]; exact HX.out
      have HAB := Lib.hid (all_back cs)
      have hE0 : chkE (L x) = 0 := by rw [HX2]; exact HAB.out.2.2.2
      have hr0 : res (L x) = (gd cs).map (fun q : Nat => (q : Int)) := by rw [HX2]; exact HAB.out.2.2.1
      have HR0 := Lib.hid hr0; clear hr0 hta
      have HXX := Lib.hid HX2; clear HX2
      have hgl : (gd cs).length ≤ 100 := by
        have h3 := gd_len cs
        have h4 := LX.out
        omega
      obtain ⟨D, cap, rfl⟩ := own_slice hown
      have HRD := Lib.hid (Reads.of_own hown); clear hown
      go_wp2_with fail
      refine (chars_any _ _ (by omega)).mono ?_; rintro e w2 ⟨v, rfl, hown2, hb2⟩
      rw [HR0.out, iv_eq, List.length_map] at hown2
      obtain ⟨D2, cap2, rfl⟩ := own_slice hown2
      have HRD2 := Lib.hid (Reads.of_own hown2); clear hown2
      rw [hE0]
      have HRD3 := Lib.hid (HRD.out.below hb2)
      have hB2 := bcall (bcall hB1 hbw hsz1) hb2 (by omega)
      have hsz2 := hb2.size
      clear hE0
      go_wp2_with fail
      refine (same_any _ _ _ _ _ _ ((gd cs).map (fun q : Nat => (q : Int))) ((gd cs).map (fun q : Nat => (q : Int))) _ _ _ (by rw [iz, iv_eq]; exact HRD2.out) (by rw [iz, iv_eq]; exact HRD3.out) (by omega) (by omega)).mono ?_; rintro e w3 ⟨rfl, hb3⟩
      have hB3 := bcall hB2 hb3 hB2.size
      go_wp2_with fail
      refine (check_any _ _ (by unfold maxLen; omega)).mono ?_; rintro e w4 ⟨rfl, hb4⟩
      have hB4 := bcall hB3 hb4 hB3.size
      rw [hEs]
      rw [hIs]
      clear hEs hIs
      go_wp2_with fail
      refine (check_any _ _ (by unfold maxLen; omega)).mono ?_; rintro e w5 ⟨rfl, hb5⟩
      have hB5 := bcall hB4 hb5 hB4.size
      go_wp2_with fail
      refine (check_any _ _ (by unfold maxLen; omega)).mono ?_; rintro e w6 ⟨rfl, hb6⟩
      have hB6 := bcall hB5 hb6 hB5.size
      go_wp2_with fail
      refine (check_any _ _ (by unfold maxLen; omega)).mono ?_; rintro e w7 ⟨rfl, hb7⟩
      have hB7 := bcall hB6 hb7 hB6.size
      go_wp2_with fail
      go_ret
      exact ⟨rfl, hB7⟩
set_option maxRecDepth 100000 in
set_option maxHeartbeats 6400000 in
theorem back_good (A : Option Addr) (n c : Nat) (cs : List Int) (s t : ByteArray) (w : World) (hl : Reads w w.heap.size 1 A n (iz cs)) (hs : s.size ≤ 8192) (ht : t.size ≤ 8192) (hn : n ≤ 100) (hB : B (L s) = none) :
    Calls Try.prog 4 #[.slice A n c, .string s, .string t] w fun e w' => e = .returned (.bool true) ∧ Below w.heap.size w w' := by
  have lx : cs.length = n := by have := hl.1; simpa [iz] using this
  have LX := Lib.hid lx; clear lx
  obtain ⟨i0, hi, hz0, hz1, hz2⟩ := info_parts int_info
  have hEs : chkE (L s) = 0 := (res_ok hB).2
  have hIs : ((chkI (L s) : Nat) : Int) = 0 := by unfold chkI; rw [hB]; rfl
  have hrs : res (L s) = (R (L s)).map (fun q : Nat => (q : Int)) := (res_ok hB).1
  obtain ⟨hsp, hvs⟩ := split_ok (L s).length (L s) (Nat.le_refl _) hB
  have hRl := R_length (L s)
  rw [L_len] at hRl
  have HSP := Lib.hid hsp; have HVS := Lib.hid hvs; have HRS := Lib.hid hrs
  clear hsp hvs hrs hB
  go_enter Try.func4, Try.ntmps4
  go_wp2_with fail
  refine (lives_any _).mono ?_; rintro e w1 ⟨rfl, hB1⟩
  have HL := Lib.hid (hl.below (hB1.mono (Nat.le_refl _))); clear hl
  go_wp2_with fail
  go_loopw [7, 8, 10, 11, 12, 47] (fun a v _ _ _ i w' => ∃ (k : Nat) (x : ByteArray), i = .int .i64 k ∧ k ≤ n ∧ a = .string x ∧ L x = encs (gd (cs.take k)) ∧ w'.ownsRow w1.heap.size 3 1 v (gd (cs.take k)).length (iv (gd (cs.take k))) ∧ Below w1.heap.size w1 w') (fun _ _ _ _ _ i _ => n - (intOf i).toNat)
  case atStart => exact ⟨0, ⟨#[]⟩, rfl, Nat.zero_le _, rfl, rfl, World.ownsRow_nil _ _ _ _, Below.refl _ _⟩
  case round =>
    obtain ⟨k, x, rfl, hk, rfl, hx, hown, hbw⟩ := hrel
    have HX := Lib.hid hx; clear hx
    have hsz1 := hB1.size
    have hszw := hbw.size
    have hxs : x.size ≤ 400 := by
      have h1 := L_len x
      have h2 := encs_le (gd (cs.take k))
      have h3 := gd_len (cs.take k)
      have h4 : (cs.take k).length ≤ k := List.length_take_le _ _
      rw [HX.out] at h1
      omega
    by_cases hlt : k < n
    · have hgl : (gd (cs.take k)).length ≤ 100 := by
        have h3 := gd_len (cs.take k)
        have h4 : (cs.take k).length ≤ k := List.length_take_le _ _
        omega
      obtain ⟨ad, rfl, hc1⟩ := iz_at (HL.out.below (hbw.mono (by omega))) hlt
      have hkl : k < cs.length := by rw [LX.out]; exact hlt
      have ht1 : cs.take (k + 1) = cs.take k ++ [cs[k]?.getD 0] := by rw [List.take_succ_eq_append_getElem hkl, List.getElem?_eq_getElem hkl]; rfl
      have HT := Lib.hid ht1; clear ht1
      generalize cs[k]?.getD 0 = c at *
      have h0 : (0 : Int) ≤ (k : Int) := by omega
      have h1 : (k : Int) < (n : Int) := by omega
      by_cases hv : Utf8.valid c = true
      · have hg : gd (cs.take (k + 1)) = gd (cs.take k) ++ [c.toNat] := by rw [HT.out, gd_snoc, if_pos hv]
        have HG := Lib.hid hg; clear hg
        have hE : encE c = 0 := by unfold encE; rw [if_pos hv]
        have HE := Lib.hid (L_encS hv)
        have hes : (encS c).size ≤ 4 := by rw [← L_len, L_encS hv]; exact enc_le _
        have hcn : ((c.toNat : Nat) : Int) = c := by rw [valid_iff] at hv; omega
        have HCN := Lib.hid hcn; clear hcn hv
        go_wp2_with (first
          | (go_at_call 6; refine (enc_any _ _).mono ?_; rintro e w2 ⟨rfl, rfl⟩; rw [hE])
          | (at_builtin; refine wpList_append_own _ rfl _ _ 28 rfl w1.heap.size 3 i0 (.int .i64 0) 1 8 Try.underlying28 hi hz0 hz1 hz2 rfl (by decide) _ _ _ rfl (hown.alloc _) ⟨wr.heap.size, 0, none⟩ 1 1 [.int .i64 c] rfl rfl (one_cell _ _ _) (one_one _) (by unfold maxLen; omega) (by omega) (by simp; omega) ?_; intro v' w2 hown' hgrow _))
        have hge := own_block_ge (hown.alloc (.cells #[Value.int .i64 c] 3))
        have hb3 : Below w1.heap.size w1 w2 := (hbw.alloc hszw _).grown hgrow (by simp; omega) (fun q hq => hge _ hq)
        have hown2 : w2.ownsRow w1.heap.size 3 1 v' (gd (cs.take (k + 1))).length (iv (gd (cs.take (k + 1)))) := by
          rw [HG.out, iv_snoc, List.length_append, HCN.out]; exact hown'
        have hxx : L (x ++ encS c) = encs (gd (cs.take (k + 1))) := by rw [L_append, HX.out, HE.out, HG.out, encs_snoc]
        clear hown' hgrow hge hown hbw
        go_wp2
        go_roundw
        case rel => exact ⟨k + 1, _, by go_num, by omega, rfl, hxx, hown2, hb3⟩
        case measure => simp [intOf]; omega
      · have hg : gd (cs.take (k + 1)) = gd (cs.take k) := by rw [HT.out, gd_snoc, if_neg hv, List.append_nil]
        have HG := Lib.hid hg; clear hg
        have hE : encE c = 1 := by unfold encE; rw [if_neg hv]
        clear hv
        go_wp2_with (go_at_call 6; refine (enc_any _ _).mono ?_; rintro e w2 ⟨rfl, rfl⟩; rw [hE])
        go_roundw
        case rel => exact ⟨k + 1, x, by go_num, by omega, rfl, by rw [HG.out]; exact HX.out, by rw [HG.out]; exact hown, hbw⟩
        case measure => simp [intOf]; omega
    · obtain rfl : k = n := by omega
      have h1 : ¬ (k : Int) < (k : Int) := by omega
      have hta : cs.take k = cs := List.take_of_length_le (by rw [LX.out]; omega)
      rw [hta] at hown
      have HX2 : L x = encs (gd cs) := by rw [← hta]; exact HX.out
      have HAB := Lib.hid (all_back cs)
      have hE0 : chkE (L x) = 0 := by rw [HX2]; exact HAB.out.2.2.2
      have hr0 : res (L x) = (gd cs).map (fun q : Nat => (q : Int)) := by rw [HX2]; exact HAB.out.2.2.1
      have HR0 := Lib.hid hr0; clear hr0 hta
      have HXX := Lib.hid HX2; clear HX2
      have hgl : (gd cs).length ≤ 100 := by
        have h3 := gd_len cs
        have h4 := LX.out
        omega
      obtain ⟨D, cap, rfl⟩ := own_slice hown
      have HRD := Lib.hid (Reads.of_own hown); clear hown
      go_wp2_with fail
      refine (chars_any _ _ (by omega)).mono ?_; rintro e w2 ⟨v, rfl, hown2, hb2⟩
      rw [HR0.out, iv_eq, List.length_map] at hown2
      obtain ⟨D2, cap2, rfl⟩ := own_slice hown2
      have HRD2 := Lib.hid (Reads.of_own hown2); clear hown2
      rw [hE0]
      have HRD3 := Lib.hid (HRD.out.below hb2)
      have hB2 := bcall (bcall hB1 hbw hsz1) hb2 (by omega)
      have hsz2 := hb2.size
      clear hE0
      go_wp2_with fail
      refine (same_any _ _ _ _ _ _ ((gd cs).map (fun q : Nat => (q : Int))) ((gd cs).map (fun q : Nat => (q : Int))) _ _ _ (by rw [iz, iv_eq]; exact HRD2.out) (by rw [iz, iv_eq]; exact HRD3.out) (by omega) (by omega)).mono ?_; rintro e w3 ⟨rfl, hb3⟩
      have hB3 := bcall hB2 hb3 hB2.size
      go_wp2_with fail
      refine (check_any _ _ (by unfold maxLen; omega)).mono ?_; rintro e w4 ⟨rfl, hb4⟩
      have hB4 := bcall hB3 hb4 hB3.size
      rw [hEs]
      rw [hIs]
      clear hEs hIs
      go_wp2_with fail
      refine (chars_any _ _ hs).mono ?_; rintro e w5 ⟨v, rfl, hown5, hb5⟩
      rw [HRS.out, iv_eq, List.length_map] at hown5
      obtain ⟨D5, cap5, rfl⟩ := own_slice hown5
      have HRD5 := Lib.hid (Reads.of_own hown5); clear hown5
      have hB5 := bcall hB4 hb5 hB4.size
      have hE5 : chkE (L s) = 0 := by rw [← HSP.out]; exact (res_ok (l := encs (R (L s))) (encs_ok _ _ HVS.out (Nat.le_refl _)).1).2
      rw [hE5]
      clear hE5
      generalize hN : (R (L s)).length = N at *
      have HN := Lib.hid hN; clear hN
      go_wp2_with fail
      go_loop [25, 27, 28, 29, 129] (fun a _ _ _ i => ∃ (j : Nat) (y : ByteArray), i = .int .i64 j ∧ j ≤ N ∧ a = .string y ∧ L y = encs ((R (L s)).take j)) (fun _ _ _ _ i => N - (intOf i).toNat)
      case atStart => exact ⟨0, ⟨#[]⟩, rfl, Nat.zero_le _, rfl, rfl⟩
      case round =>
        obtain ⟨j, y, rfl, hj, rfl, hy⟩ := hrel
        have HY := Lib.hid hy; clear hy
        have hys : y.size ≤ 40000 := by
          have h1 := L_len y
          have h2 := encs_le ((R (L s)).take j)
          have h4 : ((R (L s)).take j).length ≤ j := List.length_take_le _ _
          rw [HY.out] at h1
          omega
        by_cases hjn : j < N
        · obtain ⟨ad, q, rfl, hq, hcq⟩ := iv_at HRD5.out hjn
          have hm : q ∈ R (L s) := List.mem_of_getElem? hq
          have hv := HVS.out q hm
          have HT : (R (L s)).take (j + 1) = (R (L s)).take j ++ [q] := by rw [List.take_add_one, hq]; rfl
          have HT' := Lib.hid HT; clear HT hq hm
          have hvz : Utf8.valid (q : Int) = true := by rw [valid_val]; exact hv
          have hE6 : encE (q : Int) = 0 := by unfold encE; rw [if_pos hvz]
          have hL6 : L (encS (q : Int)) = enc q := by have := L_encS hvz; simpa using this
          have hes : (encS (q : Int)).size ≤ 4 := by rw [← L_len, hL6]; exact enc_le _
          have HL6 := Lib.hid hL6; clear hL6 hv hvz
          have h00 : (0 : Int) ≤ (j : Int) := by omega
          have h11 : (j : Int) < (N : Int) := by omega
          go_wp2_with fail
          refine (enc_any _ _).mono ?_; rintro e w6 ⟨rfl, rfl⟩
          rw [hE6]
          go_wp2_with fail
          go_round
          case rel => exact ⟨j + 1, _, by go_num, by omega, rfl, by rw [L_append, HY.out, HL6.out, HT'.out, encs_snoc]⟩
          case measure => simp [intOf]; omega
        · obtain rfl : j = N := by omega
          have h11 : ¬ (j : Int) < (j : Int) := by omega
          have hya : y.toList = s.toList := by
            rw [Lib.toList_data, Lib.toList_data]
            show L y = L s
            rw [HY.out, List.take_of_length_le (by rw [HN.out]; omega)]; exact HSP.out
          have hyb : (y.toList == s.toList) = true := by rw [hya]; simp
          clear hya
          go_wp2_with fail
          go_ret
          exact ⟨rfl, hB5⟩
set_option maxRecDepth 100000 in
/-- too long: nothing is asked -/
theorem back_long (A : Option Addr) (n c : Nat) (s t : ByteArray) (w : World) (hs : s.size ≤ maxLen) (ht : t.size ≤ maxLen) (hn : n ≤ maxLen) (h : ¬ (n ≤ 100 ∧ s.size ≤ 8192 ∧ t.size ≤ 8192)) :
    Calls Try.prog 4 #[.slice A n c, .string s, .string t] w fun e w' => e = .returned (.bool true) ∧ Below w.heap.size w w' := by
  unfold maxLen at hs ht hn
  have hh : (100 : Int) < (n : Int) ∨ (¬ (100 : Int) < (n : Int) ∧ (8192 : Int) < (s.size : Int)) ∨ (¬ (100 : Int) < (n : Int) ∧ ¬ (8192 : Int) < (s.size : Int) ∧ (8192 : Int) < (t.size : Int)) := by omega
  clear h
  rcases hh with h1 | ⟨h1, h2⟩ | ⟨h1, h2, h3⟩
  all_goals
    go_enter Try.func4, Try.ntmps4
    go_wp2_with fail
    refine (lives_any _).mono ?_; rintro e w1 ⟨rfl, hB1⟩
    go_wp2_with fail
    go_ret
    exact ⟨rfl, hB1⟩
theorem back_any (A : Option Addr) (n c : Nat) (cs : List Int) (s t : ByteArray) (w : World) (hl : Reads w w.heap.size 1 A n (iz cs)) (hs : s.size ≤ maxLen) (ht : t.size ≤ maxLen) (hn : n ≤ maxLen) :
    Calls Try.prog 4 #[.slice A n c, .string s, .string t] w fun e w' => e = .returned (.bool true) ∧ Below w.heap.size w w' := by
  by_cases h : n ≤ 100 ∧ s.size ≤ 8192 ∧ t.size ≤ 8192
  · cases hB : B (L s) with
    | none => exact back_good A n c cs s t w hl h.2.1 h.2.2 h.1 hB
    | some k => exact back_bad A n c cs s t w hl h.2.1 h.2.2 h.1 k hB
  · exact back_long A n c s t w hs ht hn h
end Go.Proofs.Ytmhchkhinjiebaa.Utf
