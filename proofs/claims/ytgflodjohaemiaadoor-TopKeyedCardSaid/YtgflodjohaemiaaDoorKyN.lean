/-
  CHARTS: HIVES: Under, Find, Get; Texts: walked.
-/
import Derived.Test.YtgflodjohaemiaaDoorKyM
import Derived.BigQuiet
namespace Go.Proofs.YtgflodjohaemiaaDoor.Ky
open Go.ChangeShapes Go.WideShapes Go.ChangeAt Go.RowKit Go.Maps
open Go.Proofs.YtgflodjohaemiaaDoor
open Go.Proofs.YtgflodjohaemiaaDoor.Wd
open Go.Proofs.YtgflodjohaemiaaDoor.Sl
open Go.Proofs.YtgflodjohaemiaaDoor.Mp (Smap wpList_look_yes wpList_look_no wpList_mput mput mput_same mput_other kS hR)
open Go.Proofs.YtgflodjohaemiaaDoor.Mr (Rmap rk row_key rowV)
open Go.Proofs.YtgflodjohaemiaaDoor.Utf (L)
set_option linter.unusedVariables false
set_option linter.unusedSimpArgs false
theorem L_back (s : ByteArray) : (⟨(L s).toArray⟩ : ByteArray) = s := by cases s; rfl
theorem L_inj {s t : ByteArray} (h : L s = L t) : s = t := by rw [← L_back s, ← L_back t, h]
theorem L_add (s t : ByteArray) : L (s ++ t) = L s ++ L t := by show (s ++ t).data.toList = _; rw [ByteArray.data_append, Array.toList_append]; rfl
set_option maxRecDepth 100000 in
set_option maxHeartbeats 6400000 in
theorem texts_eq (A1 A2 : Option Addr) (n c c2 : Nat) (l : List ByteArray) (w : World) (h1 : Sls stC 1 w w.heap.size A1 n l) (h2 : Sls stC 1 w w.heap.size A2 n l) (hm : n ≤ maxLen) :
    Calls Tryd.prog 10 #[.slice A1 n c, .slice A2 n c2] w fun e w' => e = .returned (.bool true) ∧ Below w.heap.size w w' := by
  unfold maxLen at hm
  go_enter Tryd.func10, Tryd.ntmps10
  go_wp2_with fail
  go_loopw [13] (fun i wr => ∃ k : Nat, i = .int .i64 k ∧ k ≤ n ∧ Below w.heap.size w wr) (fun i _ => n - (intOf i).toNat)
  case atStart => exact ⟨0, rfl, Nat.zero_le _, Below.refl _ _⟩
  case round =>
    obtain ⟨k, rfl, hk, hb⟩ := hrel
    by_cases hlt : k < n
    · have hlt' : (k : Int) < (n : Int) := by omega
      obtain ⟨ad, e1, r1⟩ := (h1.below hb).row (fun _ => rfl) ByteArray.empty hlt
      obtain ⟨ad2, e2, r2⟩ := (h2.below hb).row (fun _ => rfl) ByteArray.empty hlt
      have H1 := Lib.hid h1; have H2 := Lib.hid h2
      clear h1 h2
      rw [e1, e2]
      clear e1 e2
      generalize l.getD k ByteArray.empty = a at *
      have q1 : wr.cell? (ad.add k) = some (.string a) := by have := row_c0 r1 (v := .string a) rfl; rwa [Nat.mul_one] at this
      have q2 : wr.cell? (ad2.add k) = some (.string a) := by have := row_c0 r2 (v := .string a) rfl; rwa [Nat.mul_one] at this
      clear r1 r2
      have e1 : (a.toList == a.toList) = true := beq_self_eq_true _
      have e2 : (a.toList != a.toList) = false := by unfold bne; rw [e1]; rfl
      have e3 : (!a.toList == a.toList) = false := by rw [e1]; rfl
      go_upto_region 6 with fail
      go_quiet (fail)
      go_wp2_with fail
      go_roundw
      case rel => exact ⟨k + 1, by go_num, by omega, bdrewN hb _⟩
      case measure => simp [intOf]; omega
    · obtain rfl : k = n := by omega
      have hlt' : ¬ (k : Int) < (k : Int) := by omega
      go_wp2_with fail
      go_ret
      exact ⟨rfl, hb⟩
/-- what Find answers: the key's values, cloned -/
def FnP (w' : World) (path : ByteArray) (k : Hk) (x : Ending) : Prop := ∃ A' c', x = .returned (.tuple #[.agg #[.string path, .slice A' k.n c'], .bool true]) ∧ Sls Vl.C 5 w' w'.heap.size A' k.n k.vs
/-- what Under answers: these parts -/
def UnP (w' : World) (ps : List ByteArray) (x : Ending) : Prop := ∃ A' c', x = .returned (.slice A' ps.length c') ∧ Sls stC 1 w' w'.heap.size A' ps.length ps
set_option maxRecDepth 100000 in
set_option maxHeartbeats 12800000 in
theorem under_any (Ad : Option Addr) (n c B : Nat) (hs : List Hk) (path : ByteArray) (ps : List ByteArray) (w : World) (hR : HvR w B Ad n hs) (hB : B ≤ w.heap.size) (hn : n ≤ 4096) (hps : path.size ≤ 1000)
    (hl : ps.length = n) (hpp : ∀ j, j < n → L (hs.getD j Hk.nil).p = L path ++ 92 :: L (ps.getD j ByteArray.empty) ∧ L (ps.getD j ByteArray.empty) ≠ [] ∧ (92 : UInt8) ∉ L (ps.getD j ByteArray.empty)) :
    Calls Tryd.prog 11 #[.agg #[.slice Ad n c], .string path] w fun x w' => UnP w' ps x ∧ Below w.heap.size w w' := by
  have hlen := hR.s.len
  obtain ⟨i0, hi0, hz0, hz1, hz2⟩ := info_parts st_inf
  have HI := Lib.hid hi0; clear hi0
  have HPP := Lib.hid hpp; clear hpp
  have hps1 : ¬ 9223372036854775807 < path.size + 1 := by omega
  have hps2 : path.size + 1 ≤ 9223372036854775807 := by omega
  have b0 := bal (Below.refl _ w) (.cells #[.slice Ad n c] 29); have x0 := Blk.new w 29 #[.slice Ad n c]
  have o0 := World.ownsRow_nil (w.alloc (.cells #[.slice Ad n c] 29)) w.heap.size 9 1
  go_enter Tryd.func11, Tryd.ntmps11
  go_upto_region 1 with fail
  generalize w.alloc (.cells #[.slice Ad n c] 29) = V at *
  obtain ⟨q, hq0⟩ : ∃ q, w.heap.size = q := ⟨_, rfl⟩
  have c0 : V.cell? ⟨q, 0, none⟩ = some (.slice Ad n c) := by rw [← hq0]; exact x0.cell 0
  rw [hq0]
  clear x0 hq0
  go_upto_region 3 with fail
  go_loopw [5, 13] (fun v i wr => ∃ j : Nat, i = .int .i64 (j : Int) ∧ j ≤ n ∧ wr.ownsRow w.heap.size 9 1 v j (flat stC (ps.take j)) ∧ Below w.heap.size w wr) (fun _ i _ => n - (intOf i).toNat)
  case atStart => exact ⟨0, rfl, Nat.zero_le _, o0, b0⟩
  case round =>
    clear o0 b0 c0
    obtain ⟨j, rfl, hj, ho, b⟩ := hrel
    by_cases hlt : j < n
    · have hltI : (j : Int) < (n : Int) := by omega
      obtain ⟨ad, eA, hrow⟩ := (hR.s.below (b.mono hB)).row (fun _ => rfl) Hk.nil hlt
      subst eA
      obtain ⟨p1, p2, p3⟩ := HPP.out j hlt
      have HTK := Lib.hid (getD_take ByteArray.empty (L := ps) (k := j) (by omega))
      generalize hs.getD j Hk.nil = k at *
      generalize ps.getD j ByteArray.empty = pj at *
      have hpre : Lib.hasPrefix k.p.data.toList (path ++ bs).data.toList = true := by
        show Lib.hasPrefix (L k.p) (L (path ++ bs)) = true
        rw [p1, L_add]; unfold Lib.hasPrefix
        rw [List.isPrefixOf_iff_prefix]
        exact ⟨L pj, by rw [List.append_assoc]; rfl⟩
      have htr : (⟨(Lib.trimPrefix k.p.data.toList (path ++ bs).data.toList).toArray⟩ : ByteArray) = pj := by
        unfold Lib.trimPrefix
        rw [if_pos hpre]
        have : k.p.data.toList.drop (path ++ bs).data.toList.length = L pj := by
          show (L k.p).drop (L (path ++ bs)).length = _
          rw [p1, L_add, show L path ++ 92 :: L pj = (L path ++ L bs) ++ L pj by rw [List.append_assoc]; rfl, List.drop_left]
        rw [this, L_back]
      have hcp := fun W => Tryd.strings_CutPrefix k.p (path ++ bs) W
      rw [hpre, htr] at hcp
      have hct := fun W => Tryd.strings_Contains_one pj 92 W
      rw [show decide (0 ≤ Lib.indexByte pj.data.toList 92) = false from by rw [show Lib.indexByte pj.data.toList 92 = -1 from ixb_no p3]; rfl] at hct
      have hne : (pj.toList == ([] : List UInt8)) = false := by rw [Lib.toList_data, beq_eq_false_iff_ne]; exact p2
      have hne2 : (!pj.toList == ([] : List UInt8)) = true := by rw [hne]; rfl
      have hne3 : ¬ pj.toList = [] := by rw [Lib.toList_data]; exact p2
      have hne4 : ¬ pj = (⟨#[]⟩ : ByteArray) := fun e => p2 (by rw [e]; rfl)
      clear hpre htr p1 p2 p3
      have hb1 := bal (Below.refl _ wr) (.cells k.C 45)
      have y1 := Blk.new wr 45 k.C; have b1 := bcl b hb1; have o1 := ho.alloc (.cells k.C 45)
      clear hb1
      go_upto_region 5 with (first | (refine wpList_at_g rfl 45 _ rfl _ _ k.C rfl _ hrow Tryd.underlying45 rfl (by kernel_rfl) ?_) | (refine wpList_store_new rfl 45 _ _ rfl rfl wr.heap.size k.C rfl rfl _ #[.string ⟨#[]⟩, .slice none 0 0] wr rfl rfl rfl (by kernel_rfl) (by kernel_rfl) ?_))
      clear hrow b ho
      generalize wr.alloc (.cells k.C 45) = V at *
      obtain ⟨q2, hq⟩ : ∃ q, wr.heap.size = q := ⟨_, rfl⟩
      simp only [hq] at y1 ⊢
      clear hq
      have d0 : V.cell? ⟨q2, 0, none⟩ = some (.string k.p) := y1.cell 0
      go_wp2_with fail
      refine (hcp _).mono ?_; rintro x w2 ⟨rfl, rfl⟩
      go_wp2_with fail
      refine (hct _).mono ?_; rintro x w3 ⟨rfl, rfl⟩
      have b5 := bal b1 (.cells #[.string pj] 9); have o5 := o1.alloc (.cells #[.string pj] 9)
      have rd := (Sls.of_blk (f := stC) (sz := 1) (L := [pj]) (fun _ => rfl) (Blk.new w3 9 #[.string pj]) rfl).r
      go_wp2_with (at_builtin; refine wpList_append_any _ rfl (.tmp 35) (.tmp 37) 30 rfl w.heap.size 9 i0 _ 1 16 Tryd.underlying30 HI.out hz0 hz1 hz2 rfl (by decide) _ j (flat stC (ps.take j)) rfl o5 _ _ 1 1 (flat stC [pj]) rfl rd (flat_cells st_all _) (by unfold maxLen; omega) (by omega) b5.size ?_; intro v1 w6 o6 g6 _)
      have b6 := b5.grown g6 b5.size (fun g hg => own_ge o5 g hg)
      have o7 : w6.ownsRow w.heap.size 9 1 v1 (j + 1) (flat stC (ps.take (j + 1))) := by
        rw [HTK.out, flat_append]; exact o6
      clear o6 g6 o5 b5 rd
      go_wp2_with fail
      go_roundw
      case rel => exact ⟨j + 1, by go_num, by omega, o7, b6⟩
      case measure => simp [intOf]; omega
    · obtain rfl : j = n := by omega
      have hltI : ¬ (j : Int) < (j : Int) := by omega
      rw [List.take_of_length_le (by omega)] at ho
      obtain ⟨A', c', hv⟩ := own_form ho
      subst hv
      have HQ := Lib.hid (show UnP wr ps (.returned (.slice A' j c')) from by rw [← hl] at ho ⊢; exact ⟨A', c', rfl, Sls.of_own rfl ho⟩)
      go_wp2_with fail
      go_ret
      exact ⟨HQ.out, b⟩

set_option maxRecDepth 100000 in
set_option maxHeartbeats 6400000 in
theorem find_key (Ad : Option Addr) (n c B i : Nat) (hs : List Hk) (path : ByteArray) (w : World) (hR : HvR w B Ad n hs) (hB : B ≤ w.heap.size) (hn : n ≤ 4096) (hi : i < n) (hn1 : (hs.getD i Hk.nil).n ≤ 1) (hf : fiV (plP path) hs = (i : Int)) :
    Calls Tryd.prog 13 #[.agg #[.slice Ad n c], .string path] w fun x w' => FnP w' path (hs.getD i Hk.nil) x ∧ Below w.heap.size w w' := by
  have hlen := hR.s.len
  have b1 := bal (Below.refl _ w) (.cells #[.slice Ad n c] 29)
  have x1 := Blk.new w 29 #[.slice Ad n c]
  have b2 := bal b1 (.cells #[.string ⟨#[]⟩, .slice none 0 0] 45)
  have x2 := Blk.new (w.alloc (.cells #[.slice Ad n c] 29)) 45 #[.string ⟨#[]⟩, .slice none 0 0]
  have y1 := x1.alloc (.cells #[.string ⟨#[]⟩, .slice none 0 0] 45)
  rw [size_al] at x2
  clear x1 b1
  have hpl := fun W (b : Below w.heap.size w W) => place_any Ad n c B hs path W (hR.s.below (b.mono hB)) (Nat.le_trans hB b.size) (by unfold maxLen; omega)
  simp only [hf] at hpl
  have hrr := fun W (b : Below w.heap.size w W) => (hR.s.below (b.mono hB)).row (fun _ => rfl) Hk.nil hi
  have hmm := fun W (b : Below w.heap.size w W) => (hR.m _ (getD_mem (L := hs) Hk.nil (k := i) (by omega))).below (b.mono hB)
  have hcl := fun W (b : Below w.heap.size w W) => clone_any _ _ (hs.getD i Hk.nil).c B _ W (hmm W b) (Nat.le_trans hB b.size) hn1
  have hiI : (i : Int) < (n : Int) := by omega
  have hi0 : ¬ (i : Int) < 0 := by omega
  clear hmm hf
  generalize hs.getD i Hk.nil = k at *
  go_enter Tryd.func13, Tryd.ntmps13
  go_upto_region 1 with fail
  obtain ⟨q, hq⟩ : ∃ q, w.heap.size = q := ⟨_, rfl⟩
  have hqw : w.heap.size ≤ q := Nat.le_of_eq hq
  rw [hq] at x2 y1 ⊢
  generalize (w.alloc (.cells #[.slice Ad n c] 29)).alloc (.cells #[.string ⟨#[]⟩, .slice none 0 0] 45) = V at *
  go_wp2_with (refine wpList_row_g rfl 29 _ rfl _ rfl _ _ _ _ y1 Tryd.underlying29 rfl (by kernel_rfl) ?_)
  refine (hpl _ b2).mono ?_; rintro x w1 ⟨rfl, b3⟩
  have x3 := x2.below b3 x2.lt
  have y3 := y1.below b3 y1.lt
  have b3 := bcl b2 b3
  have c3 : w1.cell? ⟨q, 0, none⟩ = some (.slice Ad n c) := y3.cell 0
  obtain ⟨ad, eA, hrow⟩ := hrr w1 b3
  subst eA
  have c4 := row_cj hrow 1 (by decide) (v := .slice k.A k.n k.c) rfl
  have hcc := hcl w1 b3
  clear hpl hcl hrr x2 y1 b2
  go_wp2_with fail
  refine hcc.mono ?_; rintro x w2 ⟨⟨A', c', rfl, hs', hne'⟩, b4⟩
  have x4 := x3.below b4 x3.lt
  have b5 := bcl b3 b4
  have hlt1 := x3.lt
  have HF := Lib.hid (show FnP (w2.setRow (q + 1) #[.string path, .slice A' k.n c']) path k (.returned (.tuple #[.agg #[.string path, .slice A' k.n c'], .bool true])) from
    ⟨A', c', rfl, sls_away (g := q + 1) (B := w2.heap.size) hs' (fun hp a e h => by have := hne' hp a e; omega) (by decide) (fun b _ hb => setRow_other w2 (q + 1) b _ hb) |>.more (by simp [World.setRow])⟩)
  go_wp2_with (refine wpList_store_g rfl 45 _ _ rfl rfl (q + 1) 0 #[.string path, .slice A' k.n c'] #[.string path, .slice A' k.n c'] rfl rfl _ _ x4 (by show 0 + 2 ≤ 2; decide) (by kernel_rfl) (by simp [Value.oneCell']) (by rfl) ?_)
  exact bodyPost_ret (res_ct rfl _ _ _ _ _ (.bool true) _ rfl rfl (Blk.row x4 _) Tryd.underlying45 rfl (by kernel_rfl)) rfl ⟨HF.out, below_row b5 (by omega) _⟩
set_option maxRecDepth 100000 in
set_option maxHeartbeats 6400000 in
theorem get_any (Ad : Option Addr) (c B : Nat) (p : ByteArray) (v : Vl) (w : World) (hR : Sls Vl.C 5 w B Ad 1 [v]) (hB : B ≤ w.heap.size) :
    Calls Tryd.prog 14 #[.agg #[.string p, .slice Ad 1 c], .string v.nm] w fun x w' => x = .returned (.tuple #[.agg v.C, .bool true]) ∧ Below w.heap.size w w' := by
  have b1 := bal (Below.refl _ w) (.cells #[.string p, .slice Ad 1 c] 45)
  have x1 := Blk.new w 45 #[.string p, .slice Ad 1 c]
  have b2 := bal b1 (.cells #[.string ⟨#[]⟩, .int .u8 0, .string ⟨#[]⟩, .int .u32 0, .string ⟨#[]⟩] 39)
  have x2 := Blk.new (w.alloc (.cells #[.string p, .slice Ad 1 c] 45)) 39 #[.string ⟨#[]⟩, .int .u8 0, .string ⟨#[]⟩, .int .u32 0, .string ⟨#[]⟩]
  have y1 := x1.alloc (.cells #[.string ⟨#[]⟩, .int .u8 0, .string ⟨#[]⟩, .int .u32 0, .string ⟨#[]⟩] 39)
  rw [size_al] at x2
  clear x1 b1
  have e1 : (v.nm.toList == v.nm.toList) = true := beq_self_eq_true _
  go_enter Tryd.func14, Tryd.ntmps14
  go_upto_region 1 with fail
  obtain ⟨q, hq⟩ : ∃ q, w.heap.size = q := ⟨_, rfl⟩
  have hqw : w.heap.size ≤ q := Nat.le_of_eq hq
  rw [hq] at x2 y1 ⊢
  generalize (w.alloc (.cells #[.string p, .slice Ad 1 c] 45)).alloc (.cells #[.string ⟨#[]⟩, .int .u8 0, .string ⟨#[]⟩, .int .u32 0, .string ⟨#[]⟩] 39) = V at *
  have c3 : V.cell? ⟨q, 1, none⟩ = some (.slice Ad 1 c) := y1.cell 1
  obtain ⟨ad, eA, hrow⟩ := (hR.below (b2.mono hB)).row (fun _ => rfl) Vl.nil (k := 0) (by omega)
  have hrow : Row V B ad v.C := row_0 hrow
  subst eA
  go_upto_region 2 with fail
  go_loopw [11] (fun i wr => i = .int .i64 0 ∧ wr = V) (fun _ _ => 0)
  case atStart => exact ⟨rfl, rfl⟩
  case round =>
    obtain ⟨rfl, rfl⟩ := hrel
    have b3 := bal b2 (.cells v.C 39); have x3 := x2.alloc (.cells v.C 39); have z3 := Blk.new wr 39 v.C
    go_upto_region 4 with (first | (refine wpList_at_g rfl 39 _ rfl _ _ v.C rfl _ hrow Tryd.underlying39 rfl (by kernel_rfl) ?_) | (refine wpList_store_new rfl 39 _ _ rfl rfl wr.heap.size v.C rfl rfl _ #[.string ⟨#[]⟩, .int .u8 0, .string ⟨#[]⟩, .int .u32 0, .string ⟨#[]⟩] wr rfl rfl rfl (by kernel_rfl) (by kernel_rfl) ?_))
    clear hrow x2 y1 b2 c3
    generalize wr.alloc (.cells v.C 39) = W at *
    generalize wr.heap.size = q2 at *
    have d0 : W.cell? ⟨q2, 0, none⟩ = some (.string v.nm) := z3.cell 0
    go_wp2_with (first | (refine wpList_row_g rfl 39 _ rfl _ rfl _ _ _ _ z3 Tryd.underlying39 rfl (by kernel_rfl) ?_) | (refine wpList_store_g rfl 39 _ _ rfl rfl (q + 1) 0 v.C v.C rfl rfl _ _ x3 (by show 0 + 5 ≤ 5; decide) (by kernel_rfl) (by simp [Value.oneCell']) (by rfl) ?_))
    exact bodyPost_ret (res_ct rfl _ _ _ _ _ (.bool true) _ rfl rfl (Blk.row x3 _) Tryd.underlying39 rfl (by kernel_rfl)) rfl ⟨rfl, below_row b3 (by omega) _⟩
end Go.Proofs.YtgflodjohaemiaaDoor.Ky
