/-
  CHARTS: HIVES: place: walked; rows of keys.
-/
import Derived.Test.YtgflodjohaemiaaDoorKyK
namespace Go.Proofs.YtgflodjohaemiaaDoor.Ky
open Go.ChangeShapes Go.WideShapes Go.ChangeAt Go.RowKit Go.Maps
open Go.Proofs.YtgflodjohaemiaaDoor
open Go.Proofs.YtgflodjohaemiaaDoor.Wd
open Go.Proofs.YtgflodjohaemiaaDoor.Sl
open Go.Proofs.YtgflodjohaemiaaDoor.Mp (Smap wpList_look_yes wpList_look_no wpList_mput mput mput_same mput_other kS hR)
open Go.Proofs.YtgflodjohaemiaaDoor.Mr (Rmap rk row_key rowV)
open Go.Proofs.YtgflodjohaemiaaDoor.Utf (L)
set_option linter.unusedVariables false
set_option linter.unusedSimpArgs false
set_option maxRecDepth 100000 in
set_option maxHeartbeats 6400000 in
theorem idx_place (A : Option Addr) (n c B : Nat) (l : List Hk) (p : Hk → Bool) (g : Nat) (w : World) (hR : Sls Hk.C 2 w B A n l) (hB : B ≤ w.heap.size) (hm : n ≤ maxLen)
    (hc : ∀ k, k < n → ∀ W, Below w.heap.size w W → Calls Tryd.prog 38 #[.agg (l.getD k Hk.nil).C, .pointer (some ⟨g, 0, none⟩)] W fun x w' => x = .returned (.bool (p (l.getD k Hk.nil))) ∧ Below W.heap.size W w') :
    Calls Tryd.prog 37 #[.slice A n c, .func (.func 38) #[] #[.pointer (some ⟨g, 0, none⟩)]] w fun x w' => x = .returned (.int .i64 (fiV p l)) ∧ Below w.heap.size w w' := by
  have hll := hR.len
  unfold maxLen at hm
  have HC := Lib.hid hc; clear hc
  go_enter Tryd.func37, Tryd.ntmps37
  go_wp2_with fail
  go_loopw [5, 8] (fun _ i wr => ∃ k : Nat, i = .int .i64 (k : Int) ∧ k ≤ n ∧ (∀ j, j < k → p (l.getD j Hk.nil) = false) ∧ Below w.heap.size w wr) (fun _ i _ => n - (intOf i).toNat)
  case atStart => exact ⟨0, rfl, Nat.zero_le _, fun j hj => absurd hj (Nat.not_lt_zero _), Below.refl _ _⟩
  case round =>
    obtain ⟨k, rfl, hk, hall, b⟩ := hrel
    have HA := Lib.hid hall; clear hall
    by_cases hlt : k < n
    · have hltI : (k : Int) < (n : Int) := by omega
      have hkl : k < l.length := by omega
      obtain ⟨ad, eA, hrow⟩ := (hR.below (b.mono hB)).row (fun _ => rfl) Hk.nil hlt
      subst eA
      have hcc := HC.out k hlt wr b
      obtain ⟨a, ha⟩ : ∃ a, l.getD k Hk.nil = a := ⟨_, rfl⟩
      rw [ha] at hrow hcc
      obtain ⟨pb, hpb⟩ : ∃ b, p a = b := ⟨_, rfl⟩
      rw [hpb] at hcc
      have HP := Lib.hid (show p (l.getD k Hk.nil) = pb by rw [ha]; exact hpb)
      clear ha hpb
      go_wp2_with (refine wpList_at_g rfl 45 _ rfl B _ a.C rfl _ hrow Tryd.underlying45 rfl (by kernel_rfl) ?_)
      refine hcc.mono ?_; rintro x W1 ⟨rfl, hb⟩
      have b1 := bcl b hb; clear hb hcc hrow
      cases pb with
      | false =>
        have HS := Lib.hid (show ∀ j, j < k + 1 → p (l.getD j Hk.nil) = false from fun j hj => by
          by_cases q : j = k
          · rw [q]; exact HP.out
          · exact HA.out j (by omega))
        go_wp2_with fail
        go_roundw
        case rel => exact ⟨k + 1, by go_num, by omega, HS.out, b1⟩
        case measure => simp [intOf]; omega
      | true =>
        have HF := Lib.hid (fi_yes hkl HA.out HP.out)
        go_wp2_with fail
        go_ret
        exact ⟨by rw [HF.out]; rfl, b1⟩
    · obtain rfl : k = n := by omega
      have hltI : ¬ (k : Int) < (k : Int) := by omega
      have HF := Lib.hid (fi_no (p := p) (l := l) (d := Hk.nil) (fun j hj => HA.out j (by omega)))
      go_wp2_with fail
      go_ret
      exact ⟨by rw [HF.out]; rfl, b⟩
def plP (path : ByteArray) (k : Hk) : Bool := decide (L k.p = L path)
set_option maxRecDepth 100000 in
set_option maxHeartbeats 6400000 in
theorem place1_any (k : Hk) (path : ByteArray) (g : Nat) (w : World) (h1 : Blk w g 9 #[.string path]) :
    Calls Tryd.prog 38 #[.agg k.C, .pointer (some ⟨g, 0, none⟩)] w fun x w' => x = .returned (.bool (plP path k)) ∧ Below w.heap.size w w' := by
  have b0 := bal (Below.refl _ w) (.cells k.C 45); have x0 := Blk.new w 45 k.C
  have g1' := h1.alloc (.cells k.C 45)
  clear h1
  have HP := Lib.hid (show plP path k = decide (L k.p = L path) from rfl)
  have p1 : (k.p.toList == path.toList) = decide (L k.p = L path) := by rw [Lib.toList_data, Lib.toList_data, Bool.eq_iff_iff, beq_iff_eq, decide_eq_true_iff]; exact Iff.rfl
  generalize decide (L k.p = L path) = q1 at *
  go_enter Tryd.func38, Tryd.ntmps38
  go_upto_region 1 with fail
  generalize w.alloc (.cells k.C 45) = V at *
  obtain ⟨q, hq⟩ : ∃ q, w.heap.size = q := ⟨_, rfl⟩
  have x1 : Blk V q 45 k.C := by rw [← hq]; exact x0
  rw [hq]
  have c0 : V.cell? ⟨g, 0, none⟩ = some (.string path) := g1'.cell 0
  have c2 : V.cell? ⟨q, 0, none⟩ = some (.string k.p) := x1.cell 0
  clear x0 x1 hq g1'
  cases q1 <;>
  · go_wp2_with fail
    go_ret
    exact ⟨by rw [HP.out]; rfl, b0⟩
set_option maxRecDepth 100000 in
set_option maxHeartbeats 6400000 in
theorem place_any (Ad : Option Addr) (n c B : Nat) (hs : List Hk) (path : ByteArray) (w : World) (hR : Sls Hk.C 2 w B Ad n hs) (hB : B ≤ w.heap.size) (hn : n ≤ maxLen) :
    Calls Tryd.prog 24 #[.agg #[.slice Ad n c], .string path] w fun x w' => x = .returned (.int .i64 (fiV (plP path) hs)) ∧ Below w.heap.size w w' := by
  have b1 := bal (Below.refl _ w) (.cells #[.slice Ad n c] 29)
  have x1 := Blk.new w 29 #[.slice Ad n c]
  have b2 := bal b1 (.cells #[.string path] 9)
  have x2 := Blk.new (w.alloc (.cells #[.slice Ad n c] 29)) 9 #[.string path]
  have y1 := x1.alloc (.cells #[.string path] 9)
  rw [size_al] at x2
  have hi := fun g2 W (b : Below w.heap.size w W) (z2 : Blk W g2 9 #[.string path]) =>
    idx_place Ad n c B hs (plP path) g2 W (hR.below (b.mono hB)) (Nat.le_trans hB b.size) hn (fun j hj V bv => place1_any (hs.getD j Hk.nil) path g2 V (z2.below bv z2.lt))
  have hii := hi (w.heap.size + 1) _ b2 x2
  clear hi hR x1 b1 x2
  go_enter Tryd.func24, Tryd.ntmps24
  go_upto_region 1 with fail
  generalize (w.alloc (.cells #[.slice Ad n c] 29)).alloc (.cells #[.string path] 9) = V at *
  obtain ⟨q, hq⟩ : ∃ q, w.heap.size = q := ⟨_, rfl⟩
  have c0 : V.cell? ⟨q, 0, none⟩ = some (.slice Ad n c) := by rw [← hq]; exact y1.cell 0
  rw [hq] at hii ⊢
  clear y1
  go_wp2_with fail
  refine hii.mono ?_; rintro x w1 ⟨rfl, b3⟩
  have b4 := bcl b2 b3
  go_wp2_with fail
  go_ret
  exact ⟨rfl, b4⟩
theorem putm_any (Ad : Option Addr) (m c B : Nat) (vs : List Vl) (w : World) (hR : Sls Vl.C 5 w B Ad m vs) (hB : B ≤ w.heap.size) (hm : m ≤ 1) (hv : ∀ v ∈ vs, VlOk v) :
    Calls Tryd.prog 25 #[.slice none 0 0, .slice Ad m c] w fun x w' => ClP w w' m vs x ∧ Below w.heap.size w w' := by
  have hl := hR.len
  match vs, hl with
  | [], hl => obtain rfl : m = 0 := hl.symm; exact put0_any Ad c B w hR hB
  | [v], hl =>
    obtain rfl : m = 1 := hl.symm
    exact put1_any Ad c B v w hR hB (by have := (hv v (by simp)).n2; unfold maxLen; omega)
  | _ :: _ :: _, hl => exfalso; simp at hl; omega
theorem sls_away2 {α : Type} {f : α → Array Value} {sz : Nat} {w w' : World} {B n : Nat} {X : Nat → Prop} {A : Option Addr} {l : List α} (h : Sls f sz w B A n l) (hg : 0 < n → ∀ a, A = some a → ¬ X a.block) (hsz : 0 < sz)
    (hb : ∀ b, b < B → ¬ X b → w'.heap[b]? = w.heap[b]?) : Sls f sz w' B A n l := by
  refine ⟨h.len, h.r.1, fun hp => ?_⟩
  obtain ⟨ad, e, hlt, hc⟩ := h.r.2 hp
  have hn : 0 < n := by
    rcases Nat.eq_zero_or_pos n with q | q
    · subst q; simp at hp
    · exact q
  refine ⟨ad, e, hlt, fun j u hu => ?_⟩
  have hne := hg hn ad e
  rw [← hc j u hu]
  have : (ad.add j).block = ad.block := block_of_add ..
  unfold World.cell?
  rw [this, hb _ hlt hne]
/-- a key's values, in none of the blocks X -/
def HkX (w : World) (X : Nat → Prop) (k : Hk) : Prop := Sls Vl.C 5 w w.heap.size k.A k.n k.vs ∧ (0 < k.n → ∀ a, k.A = some a → ¬ X a.block)
theorem HkX.grow {w w' : World} {X : Nat → Prop} {k : Hk} (h : HkX w X k) (hs : w.heap.size ≤ w'.heap.size) (hb : ∀ b, b < w.heap.size → ¬ X b → w'.heap[b]? = w.heap[b]?) : HkX w' X k :=
  ⟨(sls_away2 h.1 h.2 (by decide) hb).more hs, h.2⟩
theorem HkX.below {w w' : World} {X : Nat → Prop} {k : Hk} (h : HkX w X k) (hb : Below w.heap.size w w') : HkX w' X k := h.grow hb.size fun b hlt _ => hb.block b hlt
theorem HkX.set_ {w : World} {X : Nat → Prop} {k : Hk} {g : Nat} (h : HkX w X k) (hx : X g) (i : Nat) (u : Value) : HkX (w.setCell ⟨g, i, none⟩ u) X k :=
  h.grow (by simp) fun b _ hne => Below.heap_setCell w ⟨g, i, none⟩ u b (fun e => hne (by rw [e]; exact hx))
theorem HkX.row {w : World} {X : Nat → Prop} {k : Hk} {g : Nat} (h : HkX w X k) (hx : X g) (cs : Array Value) : HkX (w.setRow g cs) X k :=
  h.grow (by simp [World.setRow]) fun b _ hne => setRow_other w g b _ (fun e => hne (by rw [e]; exact hx))
theorem HkX.grown {w w' : World} {X : Nat → Prop} {k : Hk} {g : Nat} (h : HkX w X k) (hb : w.grownBy w' (some g)) (hx : X g) : HkX w' X k := h.grow hb.size fun b hlt hne => hb.block b hlt (fun e => hne (by injection e with e; rw [e]; exact hx))
theorem HkX.to {w w' : World} {X Y : Nat → Prop} {k : Hk} (h : HkX w X k) (h' : HkX w' X k) (hy : ∀ b, Y b → X b ∨ w.heap.size ≤ b) : HkX w' Y k := ⟨h'.1, fun hp a e hY => by
  rcases hy _ hY with q | q
  · exact h.2 hp a e q
  · obtain ⟨ad, e2, hlt, _⟩ := h.1.r.2 hp
    rw [e2] at e; injection e with e; subst e; omega⟩
/-- what a key is, whatever block its values lie in -/
def Hk.ct (k : Hk) : ByteArray × Nat × List Vl := (k.p, k.n, k.vs)
theorem flat_setK : ∀ (hs : List Hk) (j : Nat) (T : List Value) (k : Hk), j < hs.length → k.p = (hs.getD j Hk.nil).p → (flat Hk.C hs ++ T).set (j * 2 + 1) (.slice k.A k.n k.c) = flat Hk.C (hs.set j k) ++ T
  | [], j, T, k, hj, _ => by simp at hj
  | h :: hs, 0, T, k, _, hp => by
    have : h.p = k.p := hp.symm
    show ([Value.string h.p, .slice h.A h.n h.c] ++ flat Hk.C hs ++ T).set 1 _ = ([Value.string k.p, .slice k.A k.n k.c] ++ flat Hk.C hs) ++ T
    rw [this]; rfl
  | h :: hs, j + 1, T, k, hj, hp => by
    have ih := flat_setK hs j T k (by simpa using hj) (by simpa using hp)
    show (Value.string h.p :: .slice h.A h.n h.c :: (flat Hk.C hs ++ T)).set ((j + 1) * 2 + 1) _ = Value.string h.p :: .slice h.A h.n h.c :: (flat Hk.C (hs.set j k) ++ T)
    rw [show (j + 1) * 2 + 1 = (j * 2 + 1) + 1 + 1 by omega, List.set_cons_succ, List.set_cons_succ, ih]
theorem ct_set {hs : List Hk} {j : Nat} {k : Hk} (hj : j < hs.length) (h : k.ct = (hs.getD j Hk.nil).ct) : (hs.set j k).map Hk.ct = hs.map Hk.ct := by
  rw [List.map_set, h, List.getD_eq_getElem?_getD, List.getElem?_eq_getElem hj]
  show (hs.map Hk.ct).set j (hs[j]).ct = _
  rw [← List.getElem_map Hk.ct (h := by rw [List.length_map]; exact hj)]
  exact List.set_getElem_self _
theorem flat_hk_len (hs : List Hk) : (flat Hk.C hs).length = hs.length * 2 := flat_len (f := Hk.C) (sz := 2) (fun _ => rfl) hs
/-- the cells of a key's row -/
theorem hk_cells (hs : List Hk) (T : List Value) {j : Nat} (hj : j < hs.length) : (flat Hk.C hs ++ T)[j * 2]? = some (.string (hs.getD j Hk.nil).p) ∧ (flat Hk.C hs ++ T)[j * 2 + 1]? = some (.slice (hs.getD j Hk.nil).A (hs.getD j Hk.nil).n (hs.getD j Hk.nil).c) := by
  have hl := flat_hk_len hs
  have h0 := flat_at (f := Hk.C) (sz := 2) (fun _ => rfl) Hk.nil hs j 0 hj (by decide)
  have h1 := flat_at (f := Hk.C) (sz := 2) (fun _ => rfl) Hk.nil hs j 1 hj (by decide)
  rw [List.getElem?_append_left (by omega), List.getElem?_append_left (by omega)]
  exact ⟨h0, h1⟩
theorem sls_keys {w : World} {g : Nat} {hs : List Hk} {T : List Value} (x : Blk w g 45 (flat Hk.C hs ++ T).toArray) : Sls Hk.C 2 w w.heap.size (some ⟨g, 0, none⟩) hs.length hs := by
  refine ⟨rfl, flat_hk_len hs, fun hp => ⟨⟨g, 0, none⟩, rfl, x.lt, fun j u hu => ?_⟩⟩
  have hj : j < (flat Hk.C hs).length := by
    rcases Nat.lt_or_ge j (flat Hk.C hs).length with q | q
    · exact q
    · rw [List.getElem?_eq_none q] at hu; cases hu
  rw [show (⟨g, 0, none⟩ : Addr).add j = ⟨g, j, none⟩ by unfold Addr.add; split <;> simp_all, x.cell, List.getElem?_toArray, List.getElem?_append_left hj]; exact hu
theorem run_copy_keys {P : Program} (w : World) (t ty e : TypeId) (g cap n : Nat) (Ad : Option Addr) (c B : Nat) (hs : List Hk) (cur : Array Value) (T : List Value) (ht : P.underlying t = some (.slice e)) (hsz : (P.info? e).map (·.size) = some 2)
    (hg : Blk w g 45 cur) (hR : Sls Hk.C 2 w B Ad n hs) (hcur : cur.size = (n + 1) * 2) (hT : cur.toList.drop (n * 2) = T) :
    ∃ w', (Builtin.copy_ #[t, t] ty #[.slice (some ⟨g, 0, none⟩) n cap, .slice Ad n c]).run P w = .ok (goInt n) w' ∧ Blk w' g 45 (flat Hk.C hs ++ T).toArray ∧ (∀ b, b ≠ g → w'.heap[b]? = w.heap[b]?) ∧ w'.heap.size = w.heap.size ∧ Below g w w' := by
  have hlen := hR.len
  have hfl := flat_hk_len hs
  rcases Nat.eq_zero_or_pos n with h0 | h0
  · subst h0
    obtain rfl : hs = [] := List.eq_nil_of_length_eq_zero hlen
    refine ⟨w, ?_, ?_, fun _ _ => rfl, rfl, Below.refl _ _⟩
    · cases hq : P.info? e with
      | none => simp [hq] at hsz
      | some i =>
        cases Ad with
        | none => simp [Builtin.copy_, run_underlying ht, Builtin.lenOf, Builtin.firstCells, sizeOf, typeInfo, hq, storeCells, goInt]
        | some ad =>
          have hl0 : (loadCells ad 0).run P w = .ok #[] w := run_loadCells_list (P := P) w ad [] (fun j v h => by simp at h)
          simp [Builtin.copy_, run_underlying ht, Builtin.lenOf, Builtin.firstCells, sizeOf, typeInfo, hq, storeCells, hl0, goInt]
    · have : (flat Hk.C [] ++ T).toArray = cur := by rw [← hT]; simp [flat]
      rw [this]; exact hg
  · obtain ⟨ad, rfl, hlt, hc⟩ := hR.r.2 (by omega)
    have hl := run_loadCells_list (P := P) w ad (flat Hk.C hs) hc
    have hst := run_storeCells_at P g 0 45 (flat Hk.C hs) 0 cur w hg (by rw [hfl]; omega) (flat_cells (fun a => by simp [Value.oneCell']) hs)
    have e2 : (cur.toList.take (0 + 0) ++ flat Hk.C hs ++ cur.toList.drop (0 + 0 + (flat Hk.C hs).length)) = flat Hk.C hs ++ T := by
      rw [← hT, hfl, hlen]; simp
    rw [e2] at hst
    refine ⟨w.setRow g (flat Hk.C hs ++ T).toArray, ?_, hg.row _, fun b hb => setRow_other w g b _ hb, by simp [World.setRow], ?_⟩
    · cases hq : P.info? e with
      | none => simp [hq] at hsz
      | some i =>
        have hi : i.size = 2 := by simpa [hq] using hsz
        rw [hfl, hlen] at hl
        simp [Builtin.copy_, run_underlying ht, Builtin.lenOf, Builtin.firstCells, sizeOf, typeInfo, hq, hi, hl, hst]
    · exact ⟨rfl, rfl, rfl, by simp [World.setRow], fun k hk => setRow_other w g k _ (by omega)⟩
end Go.Proofs.YtgflodjohaemiaaDoor.Ky
