/-
  CHARTS: HIVES: Clone, put: walked.
-/
import Derived.Test.YtgflodjohaemiaaDoorKyJ
namespace Go.Proofs.YtgflodjohaemiaaDoor.Ky
open Go.ChangeShapes Go.WideShapes Go.ChangeAt Go.RowKit Go.Maps
open Go.Proofs.YtgflodjohaemiaaDoor
open Go.Proofs.YtgflodjohaemiaaDoor.Wd
open Go.Proofs.YtgflodjohaemiaaDoor.Sl
open Go.Proofs.YtgflodjohaemiaaDoor.Mp (Smap wpList_look_yes wpList_look_no wpList_mput mput mput_same mput_other kS hR)
open Go.Proofs.YtgflodjohaemiaaDoor.Mr (Rmap rk row_key rowV)
open Go.Proofs.YtgflodjohaemiaaDoor.Utf (L)
set_option linter.unusedVariables false
set_option linter.unusedSimpArgs false
theorem vl_inf : (Tryd.prog.info? 39).map (fun i => (i.zero, i.size, i.bytes)) = some (some (.agg #[.string ⟨#[]⟩, .int .u8 0, .string ⟨#[]⟩, .int .u32 0, .string ⟨#[]⟩]), 5, 64) := by kernel_rfl
theorem vl_all (v : Vl) : (Vl.C v).all (·.oneCell') = true := by simp [Value.oneCell']
theorem eql_none (n c : Nat) (w : World) : (binOp BinOp.eql 43 (.slice none n c) (.slice none 0 0)).run Tryd.prog w = .ok (.bool true) w := by kernel_rfl
theorem eql_some (a : Addr) (n c : Nat) (w : World) : (binOp BinOp.eql 43 (.slice (some a) n c) (.slice none 0 0)).run Tryd.prog w = .ok (.bool false) w := by kernel_rfl
/-- what a clone, a put answer: a row of values of its own -/
def ClP (w w' : World) (n : Nat) (vs : List Vl) (x : Ending) : Prop := ∃ A' c', x = .returned (.slice A' n c') ∧ Sls Vl.C 5 w' w'.heap.size A' n vs ∧ (0 < n → ∀ a, A' = some a → w.heap.size ≤ a.block)
theorem sls_away {α : Type} {f : α → Array Value} {sz : Nat} {w w' : World} {B n g : Nat} {A : Option Addr} {l : List α} (h : Sls f sz w B A n l) (hg : 0 < n → ∀ a, A = some a → a.block ≠ g) (hsz : 0 < sz)
    (hb : ∀ b, b < B → b ≠ g → w'.heap[b]? = w.heap[b]?) : Sls f sz w' B A n l := by
  refine ⟨h.len, h.r.1, fun hp => ?_⟩
  obtain ⟨ad, e, hlt, hc⟩ := h.r.2 hp
  have hn : 0 < n := by
    rcases Nat.eq_zero_or_pos n with q | q
    · subst q; simp at hp
    · exact q
  refine ⟨ad, e, hlt, fun j u hu => ?_⟩
  have hne := hg hn ad e
  rw [← hc j u hu]
  have : (ad.add j).block = ad.block := block_of_add ..
  unfold World.cell?
  rw [this, hb _ hlt hne]
set_option maxRecDepth 100000 in
set_option maxHeartbeats 12800000 in
theorem clone_any (Ad : Option Addr) (n c B : Nat) (vs : List Vl) (w : World) (hR : Sls Vl.C 5 w B Ad n vs) (hB : B ≤ w.heap.size) (hn : n ≤ 1) :
    Calls Tryd.prog 23 #[.slice Ad n c] w fun x w' => ClP w w' n vs x ∧ Below w.heap.size w w' := by
  cases Ad with
  | none =>
    have h0 : n = 0 := by
      rcases Nat.eq_zero_or_pos n with q | q
      · exact q
      · obtain ⟨ad, e, _⟩ := hR.row (fun _ => rfl) Vl.nil q; cases e
    subst h0
    obtain rfl : vs = [] := List.eq_nil_of_length_eq_zero hR.len
    have HQ := Lib.hid (show ClP w w 0 [] (.returned (.slice none 0 0)) from ⟨none, 0, rfl, Sls.none_, fun h => absurd h (by decide)⟩)
    have he := fun W => eql_none 0 c W
    go_enter Tryd.func23, Tryd.ntmps23
    go_wp2_with fail
    go_ret
    exact ⟨HQ.out, Below.refl _ _⟩
  | some ad =>
    obtain ⟨i0, hi0, hz0, hz1, hz2⟩ := info_parts vl_inf
    have HI := Lib.hid hi0; clear hi0
    have ho := World.ownsRow_lit (base := w.heap.size) (e := 39) (size := 5) w (#[] : Array Value) 0 (Nat.le_refl _) (Nat.zero_le _) rfl
    have b1 := bal (Below.refl _ w) (.cells (#[] : Array Value) 39)
    have hR1 := (hR.below (b1.mono hB)).r
    have he := fun W => eql_some ad n c W
    go_enter Tryd.func23, Tryd.ntmps23
    go_upto_region 3 with fail
    go_wp2_with (at_builtin; refine wpList_append_any _ rfl (.tmp 5) (.tmp 6) 43 rfl w.heap.size 39 i0 _ 5 64 Tryd.underlying43 HI.out hz0 hz1 hz2 rfl (by decide) _ 0 _ rfl ho _ _ n c (flat Vl.C vs) rfl hR1 (flat_cells vl_all _) (by unfold maxLen; omega) (by omega) b1.size ?_; intro v1 w6 o6 g6 _)
    have b6 := b1.grown g6 b1.size (fun g hg => own_ge ho g hg)
    have o7 : w6.ownsRow w.heap.size 39 5 v1 n (flat Vl.C vs) := by
      have e : (#[] : Array Value).toList ++ flat Vl.C vs = flat Vl.C vs := rfl
      rw [e, Nat.zero_add] at o6; exact o6
    clear o6 g6 ho b1 hR1
    obtain ⟨A', c', hv⟩ := own_form o7
    subst hv
    have HQ := Lib.hid (show ClP w w6 n vs (.returned (.slice A' n c')) from
      ⟨A', c', rfl, Sls.of_own hR.len o7, fun _ a e => own_ge o7 _ (by rw [e]; rfl)⟩)
    go_wp2_with fail
    go_ret
    exact ⟨HQ.out, b6⟩
theorem run_copy_zero {P : Program} (w : World) (t ty e : TypeId) (d : Addr) (cap size : Nat) (ht : P.underlying t = some (.slice e)) (hs : (P.info? e).map (·.size) = some size) :
    (Builtin.copy_ #[t, t] ty #[.slice (some d) 0 cap, .slice none 0 0]).run P w = .ok (goInt 0) w := by
  cases hq : P.info? e with
  | none => simp [hq] at hs
  | some i => simp [Builtin.copy_, run_underlying ht, Builtin.lenOf, Builtin.firstCells, sizeOf, typeInfo, hq, storeCells]
set_option maxRecDepth 100000 in
set_option maxHeartbeats 12800000 in
theorem put0_any (Ad : Option Addr) (c B : Nat) (w : World) (hR : Sls Vl.C 5 w B Ad 0 []) (hB : B ≤ w.heap.size) :
    Calls Tryd.prog 25 #[.slice none 0 0, .slice Ad 0 c] w fun x w' => ClP w w' 0 [] x ∧ Below w.heap.size w w' := by
  obtain ⟨i0, hi0, hz0, hz1, hz2⟩ := info_parts vl_inf
  have hmk := fun W => run_makeSlice (P := Tryd.prog) W 43 39 i0 _ Tryd.underlying43 hi0 hz0 .i64 .i64 0 0 (by omega) (by omega) (by show 0 * _ ≤ _; omega) (by omega) (by omega)
  have hcp := fun W ty d => run_copy_zero (P := Tryd.prog) W 43 ty 39 d 0 5 Tryd.underlying43 (by rw [hi0]; exact congrArg some hz1)
  have hmm := fun W => run_makeMap_hint (P := Tryd.prog) 82 9 3 .i64 0 Tryd.underlying82 W
  have b1 := bal (Below.refl _ w) (.cells (madeCells #[.string ⟨#[]⟩, .int .u8 0, .string ⟨#[]⟩, .int .u32 0, .string ⟨#[]⟩] 0) 39)
  have b2 := bal b1 (.map #[] 0)
  have HQ := Lib.hid (show ∀ A' w', ClP w w' 0 [] (.returned (.slice A' 0 0)) from fun A' w' => ⟨A', 0, rfl, ⟨rfl, rfl, fun h => absurd h (by decide)⟩, fun h => absurd h (by decide)⟩)
  go_enter Tryd.func25, Tryd.ntmps25
  go_wp2_with fail
  generalize (w.alloc (.cells (madeCells #[.string ⟨#[]⟩, .int .u8 0, .string ⟨#[]⟩, .int .u32 0, .string ⟨#[]⟩] 0) 39)).alloc (.map #[] 0) = W at *
  go_loopw [29] (fun i wr => i = .int .i64 0 ∧ Below w.heap.size w wr) (fun _ _ => 0)
  case atStart => exact ⟨rfl, b2⟩
  case round =>
    obtain ⟨rfl, b3⟩ := hrel
    go_wp2_with fail
    go_loopw [5, 41] (fun v i wr => v = .slice (some ⟨w.heap.size, 0, none⟩) 0 0 ∧ i = .int .i64 0 ∧ Below w.heap.size w wr) (fun _ _ _ => 0)
    case atStart => exact ⟨rfl, rfl, b3⟩
    case round =>
      obtain ⟨rfl, rfl, b4⟩ := hrel
      go_wp2_with fail
      go_ret
      exact ⟨HQ.out _ _, b4⟩
theorem own_map_ne {w : World} {base n size nn mb : Nat} {e k : TypeId} {v : Value} {xs : List Value} {P : Program} {m : Mp.Key → Option Value} (h : w.ownsRow base e size v n xs) (hM : Smap w P k mb nn m) : some mb ≠ v.ownBlock := by
  rcases h.2 with ⟨rfl, _⟩ | ⟨g, cap, cur, rfl, _, hg, _⟩
  · intro e; cases e
  · intro e
    have e2 : mb = g := by injection e
    exact hM.cells_ne (show Blk w g _ cur from hg) e2
set_option maxRecDepth 100000 in
set_option maxHeartbeats 12800000 in
theorem put1_any (Ad : Option Addr) (c B : Nat) (v : Vl) (w : World) (hR : Sls Vl.C 5 w B Ad 1 [v]) (hB : B ≤ w.heap.size) (hv : v.nm.size ≤ maxLen) :
    Calls Tryd.prog 25 #[.slice none 0 0, .slice Ad 1 c] w fun x w' => ClP w w' 1 [v] x ∧ Below w.heap.size w w' := by
  obtain ⟨i0, hi0, hz0, hz1, hz2⟩ := info_parts vl_inf
  have hmk := fun W => run_makeSlice (P := Tryd.prog) W 43 39 i0 _ Tryd.underlying43 hi0 hz0 .i64 .i64 0 1 (by omega) (by omega) (by rw [hz1]; decide) (by rw [hz2]; decide) (by omega)
  rw [hz1] at hmk
  have hcp := fun W ty d => run_copy_zero (P := Tryd.prog) W 43 ty 39 d 1 5 Tryd.underlying43 (by rw [hi0]; exact congrArg some hz1)
  have HI := Lib.hid hi0
  have hmm := fun W => run_makeMap_hint (P := Tryd.prog) 82 9 3 .i64 0 Tryd.underlying82 W
  have b1 := bal (Below.refl _ w) (.cells (madeCells #[.string ⟨#[]⟩, .int .u8 0, .string ⟨#[]⟩, .int .u32 0, .string ⟨#[]⟩] 5) 39)
  have o1 := World.ownsRow_made (base := w.heap.size) (e := 39) (size := 5) w (madeCells #[.string ⟨#[]⟩, .int .u8 0, .string ⟨#[]⟩, .int .u32 0, .string ⟨#[]⟩] 5) 1 (Nat.le_refl _) (by decide) (size_madeCells _ _)
  have m2 := Mp.Smap.made (w.alloc (.cells (madeCells #[.string ⟨#[]⟩, .int .u8 0, .string ⟨#[]⟩, .int .u32 0, .string ⟨#[]⟩] 5) 39)) Tryd.prog 9
  rw [size_al] at m2
  have b2 := bal b1 (.map #[] 0)
  have o2 := o1.alloc (.map #[] 0)
  clear o1 b1
  have HQ := Lib.hid (show ∀ V w', w'.ownsRow w.heap.size 39 5 V 1 (flat Vl.C [v]) → ClP w w' 1 [v] (.returned V) from fun V w' o => by
    obtain ⟨A', c', rfl⟩ := own_form o
    exact ⟨A', c', rfl, Sls.of_own rfl o, fun _ a e => own_ge o _ (by rw [e]; rfl)⟩)
  go_enter Tryd.func25, Tryd.ntmps25
  go_wp2_with fail
  generalize (w.alloc (.cells (madeCells #[.string ⟨#[]⟩, .int .u8 0, .string ⟨#[]⟩, .int .u32 0, .string ⟨#[]⟩] 5) 39)).alloc (.map #[] 0) = W at *
  obtain ⟨mb, hmb⟩ : ∃ g, w.heap.size + 1 = g := ⟨_, rfl⟩
  have hge : w.heap.size ≤ mb := by omega
  rw [hmb] at m2 ⊢
  clear hmb hmk hcp hmm
  go_loopw [29] (fun i wr => i = .int .i64 0 ∧ wr = W) (fun _ _ => 0)
  case atStart => exact ⟨rfl, rfl⟩
  case round =>
    obtain ⟨rfl, rfl⟩ := hrel
    go_wp2_with fail
    go_loopw [5, 41] (fun V i wr => ∃ (j : Nat) (m : Mp.Key → Option Value), i = .int .i64 (j : Int) ∧ j ≤ 1 ∧ (j = 0 → ∀ x, m x = none) ∧ Smap wr Tryd.prog 9 mb j m ∧ wr.ownsRow w.heap.size 39 5 V j (flat Vl.C ([v].take j)) ∧ Below w.heap.size w wr) (fun _ i _ => 1 - (intOf i).toNat)
    case atStart => exact ⟨0, fun _ => none, rfl, Nat.zero_le _, fun _ _ => rfl, m2, o2, b2⟩
    case round =>
      clear m2 o2 b2
      obtain ⟨j, m, rfl, hj, hm0, hM, ho, b⟩ := hrel
      have HM0 := Lib.hid hm0; clear hm0
      by_cases hlt : j < 1
      · obtain rfl : j = 0 := by omega
        obtain ⟨A', c', hvv⟩ := own_form ho
        subst hvv
        obtain ⟨ad, eA, hrow⟩ := (hR.below (b.mono hB)).row (fun _ => rfl) Vl.nil (k := 0) (by omega)
        have hrow : Row wr B ad v.C := row_0 hrow
        subst eA
        have hnm := HM0.out rfl (L v.nm)
        have hb1 := bal (Below.refl _ wr) (.cells v.C 39)
        have y1 := Blk.new wr 39 v.C; have b1 := bcl b hb1; have M1 := hM.below hb1 hM.lt; have o1 := ho.alloc (.cells v.C 39)
        clear hb1
        go_upto_region 12 with (first | (refine wpList_at_g rfl 39 _ rfl _ _ v.C rfl _ hrow Tryd.underlying39 rfl (by kernel_rfl) ?_) | (refine wpList_store_new rfl 39 _ _ rfl rfl wr.heap.size v.C rfl rfl _ #[.string ⟨#[]⟩, .int .u8 0, .string ⟨#[]⟩, .int .u32 0, .string ⟨#[]⟩] wr rfl rfl rfl (by kernel_rfl) (by kernel_rfl) ?_))
        clear hrow hM b ho
        generalize wr.alloc (.cells v.C 39) = V at *
        obtain ⟨q2, hq⟩ : ∃ q, wr.heap.size = q := ⟨_, rfl⟩
        simp only [hq] at y1 ⊢
        clear hq
        have d0 : V.cell? ⟨q2, 0, none⟩ = some (.string v.nm) := y1.cell 0
        go_upto_region 15 with (at_lookup; refine wpList_look_no _ rfl _ _ 82 rfl 9 3 Tryd.underlying9 Tryd.underlying82 _ (zint _) mb 0 _ rfl M1 v.nm rfl hv hnm ?_)
        go_upto_region 16 with (at_mapUpdate; refine wpList_mput _ rfl _ _ _ 82 rfl 9 3 Tryd.underlying9 Tryd.underlying82 mb 0 _ rfl M1 (by unfold maxLen; omega) v.nm rfl hv _ rfl ?_; intro w4 M4 g4)
        have b4 := b1.grown g4 b1.size (fun g hg => by injection hg with hg; omega)
        have y4 := y1.grown g4 (fun e => M1.cells_ne y1 (by injection e with e; exact e.symm))
        have o4 := o1.kept g4 (.inr (fun e => own_map_ne o1 M1 e.symm))
        clear b1 y1 o1 g4 M1 d0
        have rd := (Sls.of_blk (f := Vl.C) (sz := 5) (L := [v]) (fun _ => rfl) (Blk.new w4 39 v.C) (by simp [flat])).r
        have b5 := bal b4 (.cells v.C 39); have M5 := M4.alloc (.cells v.C 39); have o5 := o4.alloc (.cells v.C 39)
        clear b4 M4 o4
        go_wp2_with (first | (refine wpList_row_g rfl 39 _ rfl _ rfl _ _ _ _ y4 Tryd.underlying39 rfl (by kernel_rfl) ?_) | (at_builtin; refine wpList_append_any _ rfl (.tmp 62) (.tmp 64) 43 rfl w.heap.size 39 i0 _ 5 64 Tryd.underlying43 HI.out hz0 hz1 hz2 rfl (by decide) _ 0 (flat Vl.C []) rfl o5 _ _ 1 1 (flat Vl.C [v]) rfl rd (flat_cells vl_all _) (by unfold maxLen; omega) (by omega) b5.size ?_; intro v1 w6 o6 g6 _))
        have b6 := b5.grown g6 b5.size (fun g hg => own_ge o5 g hg)
        have M6 := M5.kept g6 (own_map_ne o5 M5)
        clear b5 M5 g6 rd o5 y4
        go_wp2_with fail
        go_roundw
        case rel => exact ⟨1, _, by go_num, by omega, fun e => by omega, M6, o6, b6⟩
        case measure => simp [intOf]
      · obtain rfl : j = 1 := by omega
        go_wp2_with fail
        go_ret
        exact ⟨HQ.out _ _ ho, b⟩
end Go.Proofs.YtgflodjohaemiaaDoor.Ky
