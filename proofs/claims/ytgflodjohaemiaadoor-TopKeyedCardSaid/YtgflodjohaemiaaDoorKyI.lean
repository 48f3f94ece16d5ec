/-
  CHARTS: HIVES: Path, CheckValue: walked.
-/
import Derived.Test.YtgflodjohaemiaaDoorKyH
import Derived.Test.YtgflodjohaemiaaDoorShf
namespace Go.Proofs.YtgflodjohaemiaaDoor.Ky
open Go.ChangeShapes Go.WideShapes Go.ChangeAt Go.RowKit Go.Maps
open Go.Proofs.YtgflodjohaemiaaDoor
open Go.Proofs.YtgflodjohaemiaaDoor.Wd
open Go.Proofs.YtgflodjohaemiaaDoor.Sl
open Go.Proofs.YtgflodjohaemiaaDoor.Mp (Smap wpList_look_yes wpList_look_no wpList_mput mput mput_same mput_other kS hR)
open Go.Proofs.YtgflodjohaemiaaDoor.Mr (Rmap rk row_key rowV)
open Go.Proofs.YtgflodjohaemiaaDoor.Utf (L L_len plain plain_any B R dec enc val)
set_option linter.unusedVariables false
set_option linter.unusedSimpArgs false
theorem dec_asc {b : UInt8} {l : List UInt8} (h : b.toNat < 128) : dec (b :: l) = (b.toNat, 1) := by
  have e : enc b.toNat = [b] := by unfold enc; rw [if_pos h]; simp
  have := Utf.dec_enc b.toNat l (by unfold val; exact decide_eq_true (.inl (by omega)))
  rw [e] at this; exact this
theorem plain_cons {b : UInt8} {l : List UInt8} (h1 : 32 ≤ b.toNat) (h2 : b.toNat < 127) : plain (b :: l) = plain l := by
  have hd : dec (b :: l) = (b.toNat, 1) := dec_asc (by omega)
  have hn : dec (b :: l) ≠ (65533, 1) := by rw [hd]; intro e; injection e with e1 e2; omega
  have hB := Utf.B_step (b :: l) (by simp) hn
  have hRr := Utf.R_step (b :: l) (by simp) hn
  rw [hd] at hB hRr
  unfold plain
  rw [hB, hRr]
  have ho : Utf.okc b.toNat = true := Utf.okc_yes (by omega) (by omega)
  show ((Option.map _ (B l)).isNone && (b.toNat :: R l).all Utf.okc) = ((B l).isNone && (R l).all Utf.okc)
  rw [List.all_cons, ho, Bool.true_and]
  cases B l <;> rfl
theorem plain_asc {l r : List UInt8} (h : ∀ b ∈ l, 32 ≤ b.toNat ∧ b.toNat < 127) : plain (l ++ r) = plain r := by
  induction l with
  | nil => rfl
  | cons b l ih =>
    have hb := h b (List.mem_cons_self ..)
    rw [List.cons_append, plain_cons hb.1 hb.2]
    exact ih fun c hc => h c (List.mem_cons_of_mem _ hc)
abbrev bs : ByteArray := ⟨#[92]⟩
theorem ixb_at {a b : List UInt8} {c : UInt8} (h : c ∉ a) : Lib.indexByte (a ++ c :: b) c = (a.length : Int) := by
  induction a with
  | nil => unfold Lib.indexByte; simp
  | cons x a ih =>
    have hx : ¬ (x == c) = true := fun e => h (by rw [beq_iff_eq.1 e]; exact List.mem_cons_self ..)
    rw [List.cons_append, Lib.indexByte, if_neg hx, ih (fun m => h (List.mem_cons_of_mem _ m))]
    rw [if_neg (by rw [beq_iff_eq]; omega), List.length_cons]; omega
theorem ixb_no {a : List UInt8} {c : UInt8} (h : c ∉ a) : Lib.indexByte a c = -1 := by
  induction a with
  | nil => rfl
  | cons x a ih =>
    have hx : ¬ (x == c) = true := fun e => h (by rw [beq_iff_eq.1 e]; exact List.mem_cons_self ..)
    rw [Lib.indexByte, if_neg hx, ih (fun m => h (List.mem_cons_of_mem _ m))]; rfl
theorem parts_ne {p : ByteArray} {a b : List UInt8} (h : L p = a ++ 92 :: b) (ha : a ≠ []) (hb : b ≠ []) (na : (92 : UInt8) ∉ a) (nb : (92 : UInt8) ∉ b) : ByteArray.empty ∉ Lib.splitB bs 0 (Lib.countB p bs) p := by
  intro hm
  have h0 : ([] : List UInt8) ∈ (Lib.splitB bs 0 (Lib.countB p bs) p).map (·.data.toList) := List.mem_map.2 ⟨_, hm, rfl⟩
  rw [Lib.splitB_data] at h0
  have e1 : Lib.index (L p) [92] = (a.length : Int) := by rw [Lib.index_one, h, ixb_at na]
  have e2 : Lib.index b [92] = -1 := by rw [Lib.index_one, ixb_no nb]
  have hd : (L p).drop (a.length + 1) = b := by rw [h]; simp
  have e3 : Lib.countB p bs = 1 := by
    show Lib.count (L p) [92] = 1
    rw [Lib.count_hit (by simp) e1]
    show 1 + Lib.count ((L p).drop (a.length + 1)) [92] = 1
    rw [hd, Lib.count_miss e2]
  rw [e3] at h0
  have h1 : ([] : List UInt8) ∈ Lib.splitK [92] 0 1 (L p) := h0
  unfold Lib.splitK at h1
  rw [e1, if_neg (by rw [beq_iff_eq]; omega)] at h1
  have h2 : ([] : List UInt8) ∈ [(L p).take (a.length + 0), (L p).drop (a.length + 1)] := h1
  rw [hd, Nat.add_zero, h, List.take_left] at h2
  simp at h2
  rcases h2 with e | e
  · exact ha e
  · exact hb e
structure PathOk (p : ByteArray) : Prop where
  s1 : 1 ≤ p.size
  s2 : p.size ≤ 256
  pl : plain (L p) = true
  nb : hasB (L p) (L sgn2) = false
  sp : ByteArray.empty ∉ Lib.splitB bs 0 (Lib.countB p bs) p
/-- the length that texts have at most lies where it must -/
def MaxC (w : World) : Prop := ∃ m, w.cell? ⟨0, 0, none⟩ = some (.int .i64 m)
theorem MaxC.lt {w : World} (h : MaxC w) : 0 < w.heap.size := by
  obtain ⟨m, h⟩ := h
  rcases Nat.eq_zero_or_pos w.heap.size with e | e
  · unfold World.cell? at h; rw [Array.getElem?_eq_none (by omega)] at h; cases h
  · exact e
theorem MaxC.below {w w' : World} {B : Nat} (h : MaxC w) (hb : Below B w w') (hB : 0 < B) : MaxC w' := by
  obtain ⟨m, h⟩ := h
  exact ⟨m, by rw [hb.cell (show (⟨0, 0, none⟩ : Addr).block < B from hB)]; exact h⟩
set_option maxRecDepth 100000 in
set_option maxHeartbeats 6400000 in
theorem path_any (p : ByteArray) (w : World) (hM : MaxC w) (h : PathOk p) : Calls Tryd.prog 41 #[.string p] w fun x w' => x = .returned (.bool true) ∧ Below w.heap.size w w' := by
  obtain ⟨h1, h2, h3, h4, h5⟩ := h
  have hp := plain_any p w (by omega)
  rw [h3] at hp
  have hc := fun W => cany_any p sgn2 W asc2 (by decide) (by decide) (by omega)
  rw [h4] at hc
  have hlt := hM.lt
  have hs := fun W (b : Below w.heap.size w W) m hm => Tryd.strings_Split p bs m W (by omega) hm (by decide)
  have hMM := fun W (b : Below w.heap.size w W) => hM.below b hlt
  have hlen := Lib.splitB_all bs (by decide) 0 (Lib.countB p bs) p rfl
  have hcl := Lib.countB_le bs (by decide) p.size p (Nat.le_refl _)
  have hno : Lib.containsS ((Lib.splitB bs 0 (Lib.countB p bs) p).take (Lib.countB p bs + 1)) ByteArray.empty = false := by
    rw [List.take_of_length_le (by omega)]
    cases hh : Lib.containsS (Lib.splitB bs 0 (Lib.countB p bs) p) ByteArray.empty with
    | false => rfl
    | true => exact absurd ((Lib.containsS_iff _ _).1 hh) h5
  have hct := fun W (g : Nat) (hx : ∀ j, j < (Lib.splitB bs 0 (Lib.countB p bs) p).length → W.cell? ⟨g, 0 + j, none⟩ = some (.string ((Lib.splitB bs 0 (Lib.countB p bs) p).getD j ByteArray.empty))) =>
    Tryd.slices_Contains_string g 0 (Lib.countB p bs + 1) (Lib.countB p bs + 1) (Lib.splitB bs 0 (Lib.countB p bs) p) ByteArray.empty W (by omega) (by omega) hx
  rw [hno] at hct
  clear h5 hno
  generalize Lib.countB p bs = K at *
  generalize Lib.splitB bs 0 K p = zs at *
  have hI1 : ¬ (p.size : Int) < 1 := by omega
  have hI2 : ¬ (256 : Int) < (p.size : Int) := by omega
  go_enter Tryd.func41, Tryd.ntmps41
  go_wp2_with fail
  refine hp.mono ?_; rintro x w1 ⟨rfl, b1⟩
  go_wp2_with fail
  refine (hc _).mono ?_; rintro x w2 ⟨rfl, b2⟩
  have b2 := bcl b1 b2
  obtain ⟨m, hm⟩ := hMM _ b2
  have hss := hs _ b2 m hm
  clear hs hMM hp hc
  go_wp2_with fail
  refine hss.mono ?_; rintro x w3 ⟨rfl, rfl⟩
  have b3 := bal b2 (.cells (zs.map Value.string).toArray 9)
  have x3 := Blk.new w2 9 (zs.map Value.string).toArray
  have hcc := hct (w2.alloc (.cells (zs.map Value.string).toArray 9)) w2.heap.size (fun j hj => by
    rw [Nat.zero_add, x3.cell j]
    rw [List.getElem?_toArray, List.getElem?_map, List.getD_eq_getElem?_getD, List.getElem?_eq_getElem hj]; rfl)
  go_wp2_with fail
  refine hcc.mono ?_; rintro x w4 ⟨rfl, rfl⟩
  go_wp2_with fail
  go_ret
  exact ⟨rfl, b3⟩
/-- a value: a text by a name -/
structure Vl where
  nm : ByteArray
  tx : ByteArray
abbrev Vl.C (v : Vl) : Array Value := #[.string v.nm, .int .u8 1, .string v.tx, .int .u32 0, .string ⟨#[]⟩]
abbrev Vl.nil : Vl := ⟨ByteArray.empty, ByteArray.empty⟩
structure VlOk (v : Vl) : Prop where
  n1 : 1 ≤ v.nm.size
  n2 : v.nm.size ≤ 64
  np : plain (L v.nm) = true
  t2 : v.tx.size ≤ 4096
  tp : plain (L v.tx) = true
set_option maxRecDepth 100000 in
set_option maxHeartbeats 6400000 in
theorem value_any (v : Vl) (w : World) (h : VlOk v) : Calls Tryd.prog 42 #[.agg v.C] w fun x w' => x = .returned (.int .i64 0) ∧ Below w.heap.size w w' := by
  obtain ⟨h1, h2, h3, h4, h5⟩ := h
  have b0 := bal (Below.refl _ w) (.cells v.C 39); have x0 := Blk.new w 39 v.C
  have hp := fun W => plain_any v.nm W (by omega)
  have hq := fun W => plain_any v.tx W (by omega)
  rw [h3] at hp
  rw [h5] at hq
  have hI1 : ¬ (v.nm.size : Int) < 1 := by omega
  have hI2 : ¬ (64 : Int) < (v.nm.size : Int) := by omega
  have hI3 : (v.tx.size : Int) ≤ 4096 := by omega
  go_enter Tryd.func42, Tryd.ntmps42
  go_upto_region 1 with fail
  generalize w.alloc (.cells v.C 39) = V at *
  obtain ⟨q, hq0⟩ : ∃ q, w.heap.size = q := ⟨_, rfl⟩
  have x1 : Blk V q 39 v.C := by rw [← hq0]; exact x0
  rw [hq0]
  have hqV : q < V.heap.size := x1.lt
  clear x0 hq0
  have c0 : V.cell? ⟨q, 0, none⟩ = some (.string v.nm) := x1.cell 0
  go_wp2_with fail
  refine (hp _).mono ?_; rintro x w1 ⟨rfl, b1⟩
  have x2 := x1.below b1 hqV
  have c0 : w1.cell? ⟨q, 0, none⟩ = some (.string v.nm) := x2.cell 0
  have c1 : w1.cell? ⟨q, 1, none⟩ = some (.int .u8 1) := x2.cell 1
  have c2 : w1.cell? ⟨q, 2, none⟩ = some (.string v.tx) := x2.cell 2
  have b1' := bcl b0 b1
  have hq1 := x2.lt
  clear hp
  go_wp2_with fail
  refine (hq _).mono ?_; rintro x w2 ⟨rfl, b2⟩
  have x3 := x2.below b2 hq1
  have c3 : w2.cell? ⟨q, 3, none⟩ = some (.int .u32 0) := x3.cell 3
  have c4 : w2.cell? ⟨q, 4, none⟩ = some (.string ⟨#[]⟩) := x3.cell 4
  have b3 := bcl b1' b2
  clear hq
  go_wp2_with fail
  go_ret
  exact ⟨rfl, b3⟩
end Go.Proofs.YtgflodjohaemiaaDoor.Ky
