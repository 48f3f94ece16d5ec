/-
  CHARTS: alone, shared, Check: walked.
-/
import Derived.Test.YtgflodjohaemiaaDoorKyD
namespace Go.Proofs.YtgflodjohaemiaaDoor.Ky
open Go.ChangeShapes Go.WideShapes Go.ChangeAt Go.RowKit Go.Maps
open Go.Proofs.YtgflodjohaemiaaDoor
open Go.Proofs.YtgflodjohaemiaaDoor.Wd
open Go.Proofs.YtgflodjohaemiaaDoor.Sl
open Go.Proofs.YtgflodjohaemiaaDoor.Mp (Smap wpList_look_yes wpList_look_no wpList_mput mput mput_same mput_other kS hR)
open Go.Proofs.YtgflodjohaemiaaDoor.Mr (Rmap rk row_key rowV)
open Go.Proofs.YtgflodjohaemiaaDoor.Utf (L)
set_option linter.unusedVariables false
set_option linter.unusedSimpArgs false
abbrev nV (k : Nat) : Value := .int .i64 (k : Int)
/-- a map of numbers -/
abbrev nMap (m : Mp.Key → Option Nat) : Mp.Key → Option Value := fun x => (m x).map nV
def nput (m : Mp.Key → Option Nat) (s : Mp.Key) (v : Nat) : Mp.Key → Option Nat := fun x => if x = s then some v else m x
theorem nput_map (m : Mp.Key → Option Nat) (s : Mp.Key) (v : Nat) : mput (nMap m) s (nV v) = nMap (nput m s v) := by
  funext x
  unfold mput nput nMap
  by_cases h : x = s
  · simp [h]
  · simp [h]
/-- how many zones the last entry of the world has, by keys -/
def zN : List En → Mp.Key → Option Nat := fun l => l.foldl (fun m e => if L e.te = [48, 48, 49] then nput m (L e.ky) e.n else m) (fun _ => none)
theorem zN_yes {l : List En} {k : Nat} {e : En} (hk : k < l.length) (he : l.getD k En.nil = e) (h : L e.te = [48, 48, 49]) : zN (l.take (k + 1)) = nput (zN (l.take k)) (L e.ky) e.n := by
  rw [getD_take En.nil hk, he]; unfold zN; rw [List.foldl_append]
  show (if L e.te = [48, 48, 49] then _ else _) = _
  rw [if_pos h]
theorem zN_no {l : List En} {k : Nat} {e : En} (hk : k < l.length) (he : l.getD k En.nil = e) (h : ¬ L e.te = [48, 48, 49]) : zN (l.take (k + 1)) = zN (l.take k) := by
  rw [getD_take En.nil hk, he]; unfold zN; rw [List.foldl_append]
  show (if L e.te = [48, 48, 49] then _ else _) = _
  rw [if_neg h]
def aloneP (l : List En) (e : En) : Bool := decide ((zN l (L e.ky)).getD 0 ≠ 1)
def alB (l : List En) : Bool := !l.any (aloneP l)
theorem smap_look0 {w : World} {P : Program} {k t e : TypeId} {b n : Nat} {m : Mp.Key → Option Value} {z : Value} (h : Smap w P k b n m) (hk : P.underlying k = some .string) (ht : P.underlying t = some (.map k e)) (hz : (zeroValue e).run P w = .ok z w)
    {s : ByteArray} (hs : s.size ≤ maxLen) : (Instr.lookup t (.map (some b)) (.string s) false).run P w = .ok ((m s.data.toList).getD z) w := by
  obtain ⟨D, h, r⟩ := h
  obtain ⟨v, ps, hrun, hv⟩ := h.lookup (string_keyed hk) ht (z := z) hz (zd := .held z) (zp := []) rfl (WideMaps.keyOf_string_mk hk hs)
  have hv' : DataW.held v = D.atKey (kS s.data.toList) (.held z) := by
    have := congrArg (Option.map Prod.fst) hv; simpa [hR] using this
  rcases r s.data.toList with ⟨h1, h2⟩ | ⟨u, h1, h2, h3⟩
  · rw [atKey_of_not_has h2] at hv'
    injection hv' with hv'
    rw [hrun, h1, hv']; rfl
  · rw [h3] at hv'
    injection hv' with hv'
    rw [hrun, h1, hv']; rfl
theorem zint : ∀ w, (zeroValue 3).run Tryd.prog w = .ok (.int .i64 0) w := fun w => by kernel_rfl
set_option maxRecDepth 100000 in
set_option maxHeartbeats 6400000 in
theorem alone1_any (e : En) (m : Mp.Key → Option Nat) (mb nn g : Nat) (l : List En) (w : World) (he : e.ky.size ≤ maxLen) (hM : Smap w Tryd.prog 9 mb nn (nMap m)) (hg : Blk w g 82 #[.map (some mb)]) :
    Calls Tryd.prog 35 #[.agg e.C, .pointer (some ⟨g, 0, none⟩)] w fun x w' => x = .returned (.bool (decide ((m (L e.ky)).getD 0 ≠ 1))) ∧ Below w.heap.size w w' := by
  have b0 := bal (Below.refl _ w) (.cells e.C 58); have x0 := Blk.new w 58 e.C
  have g0 := hg.alloc (.cells e.C 58); have M0 := hM.alloc (.cells e.C 58)
  clear hM hg
  go_enter Tryd.func35, Tryd.ntmps35
  go_upto_region 1 with fail
  generalize w.alloc (.cells e.C 58) = V at *
  obtain ⟨q, hq⟩ : ∃ q, w.heap.size = q := ⟨_, rfl⟩
  have x1 : Blk V q 58 e.C := by rw [← hq]; exact x0
  rw [hq]
  have c0 : V.cell? ⟨g, 0, none⟩ = some (.map (some mb)) := g0.cell 0
  have c1 : V.cell? ⟨q, 0, none⟩ = some (.string e.ky) := x1.cell 0
  have hlk := smap_look0 M0 Tryd.underlying9 Tryd.underlying82 (zint V) he
  rw [show ((nMap m e.ky.data.toList).getD (.int .i64 0)) = .int .i64 (((m (L e.ky)).getD 0 : Nat) : Int) from by
    show (Option.map nV (m (L e.ky))).getD (.int .i64 0) = _
    cases m (L e.ky) <;> rfl] at hlk
  have hd : decide ((m (L e.ky)).getD 0 ≠ 1) = ((((m (L e.ky)).getD 0 : Nat) : Int) != 1) := by
    rw [Bool.eq_iff_iff, decide_eq_true_iff, bne_iff_ne]; omega
  have HD := Lib.hid hd; clear hd x0 x1 hq g0 M0
  generalize (((m (L e.ky)).getD 0 : Nat) : Int) = v at *
  go_wp2_with fail
  go_ret
  exact ⟨by rw [HD.out]; rfl, b0⟩
set_option maxRecDepth 100000 in
set_option maxHeartbeats 12800000 in
theorem alone_any (Ad : Option Addr) (n c B : Nat) (l : List En) (w : World) (hR : ChR w B Ad n c l) (hB : B ≤ w.heap.size) : Calls Tryd.prog 20 #[.slice Ad n c] w fun x w' => x = .returned (.bool (alB l)) ∧ Below w.heap.size w w' := by
  have hmk := fun W => run_makeMap_hint (P := Tryd.prog) 82 9 3 .i64 (n : Int) Tryd.underlying82 W
  have m1 := Mp.Smap.made w Tryd.prog 9
  have b1 := bal (Below.refl _ w) (.map #[] 0)
  have hlen := hR.s.len
  have hm := hR.m
  unfold maxLen at hm
  go_enter Tryd.func20, Tryd.ntmps20
  go_upto_region 3 with fail
  have m2 := m1.alloc (.cells #[.map (some w.heap.size)] 82); have b2 := bal b1 (.cells #[.map (some w.heap.size)] 82)
  have g2 := blk_at (w.alloc (.map #[] 0)) 82 #[.map (some w.heap.size)] (sz1 w _ rfl)
  generalize (w.alloc (.map #[] 0)).alloc (.cells #[.map (some w.heap.size)] 82) = W at *
  obtain ⟨mb, hmb⟩ : ∃ g, w.heap.size = g := ⟨_, rfl⟩
  obtain ⟨gb, hgb⟩ : ∃ g, mb + 1 = g := ⟨_, rfl⟩
  have hge : w.heap.size ≤ mb := Nat.le_of_eq hmb
  have hge2 : w.heap.size ≤ gb := by omega
  have hne : mb ≠ gb := by omega
  rw [hmb] at m2 g2 ⊢
  rw [hgb] at g2 ⊢
  clear hmk hmb hgb m1 b1
  go_loopw [11] (fun i wr => ∃ k : Nat, i = .int .i64 (k : Int) ∧ k ≤ n ∧ Smap wr Tryd.prog 9 mb k (nMap (zN (l.take k))) ∧ Blk wr gb 82 #[.map (some mb)] ∧ Below w.heap.size w wr) (fun i _ => n - (intOf i).toNat)
  case atStart => exact ⟨0, rfl, Nat.zero_le _, m2, g2, b2⟩
  case round =>
    clear m2 g2 b2
    obtain ⟨k, rfl, hk, hM, hg, b⟩ := hrel
    by_cases hlt : k < n
    · have hltI : (k : Int) < (n : Int) := by omega
      have hkl : k < l.length := by omega
      obtain ⟨ad, eA, hrow⟩ := (hR.s.below (b.mono hB)).row (fun _ => rfl) En.nil hlt
      subst eA
      have heo := hR.b _ (getD_mem (L := l) En.nil hkl)
      obtain ⟨e, he⟩ : ∃ e, l.getD k En.nil = e := ⟨_, rfl⟩
      rw [he] at hrow heo
      have HZY := Lib.hid (fun h => zN_yes hkl he h); have HZN := Lib.hid (fun h => zN_no hkl he h)
      have s1 := heo.1
      have hen := heo.2.2.2.2
      unfold maxLen at hen
      clear he heo
      have hb1 := bal (Below.refl _ wr) (.cells e.C 58)
      have y1 := Blk.new wr 58 e.C; have b1 := bcl b hb1; have M1 := hM.below hb1 hM.lt; have g1 := hg.below hb1 hg.lt
      clear hb1
      go_upto_region 5 with (first | (refine wpList_at_g rfl 58 _ rfl _ _ e.C rfl _ hrow Tryd.underlying58 rfl (by kernel_rfl) ?_) | (refine wpList_store_new rfl 58 _ _ rfl rfl wr.heap.size e.C rfl rfl _ #[.string ⟨#[]⟩, .string ⟨#[]⟩, .slice none 0 0] wr rfl rfl rfl (by kernel_rfl) (by kernel_rfl) ?_))
      clear hrow hM b hg
      generalize wr.alloc (.cells e.C 58) = V at *
      obtain ⟨q, hq⟩ : ∃ q, wr.heap.size = q := ⟨_, rfl⟩
      simp only [hq] at y1 ⊢
      clear hq
      have d0 : V.cell? ⟨q, 0, none⟩ = some (.string e.ky) := y1.cell 0
      have d1 : V.cell? ⟨q, 1, none⟩ = some (.string e.te) := y1.cell 1
      have d2 : V.cell? ⟨q, 2, none⟩ = some (.slice e.A e.n e.c) := y1.cell 2
      have d3 : V.cell? ⟨gb, 0, none⟩ = some (.map (some mb)) := g1.cell 0
      by_cases hw : L e.te = [48, 48, 49]
      · have hwb : (e.te.toList == [48, 48, 49]) = true := by rw [Lib.toList_data]; exact beq_iff_eq.2 hw
        have HZ := Lib.hid (HZY.out hw)
        clear HZY HZN hw
        go_upto_region 6 with fail
        go_wp2_with (at_mapUpdate; refine wpList_mput _ rfl _ _ _ 82 rfl 9 3 Tryd.underlying9 Tryd.underlying82 mb k _ rfl M1 (by unfold maxLen; omega) e.ky rfl s1 (nV e.n) rfl ?_; intro w4 M4 g4)
        have M5 : Smap w4 Tryd.prog 9 mb (k + 1) (nMap (zN (l.take (k + 1)))) := by rw [HZ.out, ← nput_map]; exact M4
        have b4 := b1.grown g4 b1.size (fun g hg => by injection hg with hg; omega)
        have g5 := g1.grown g4 (fun e => by injection e with e; omega)
        clear M4 g4 M1 y1 d0 d1 d2 d3 b1 g1
        go_wp2_with fail
        go_roundw
        case rel => exact ⟨k + 1, by go_num, by omega, M5, g5, b4⟩
        case measure => simp [intOf]; omega
      · have hwb : (e.te.toList == [48, 48, 49]) = false := by rw [Lib.toList_data, beq_eq_false_iff_ne]; exact hw
        have M5 : Smap V Tryd.prog 9 mb (k + 1) (nMap (zN (l.take (k + 1)))) := by rw [HZN.out hw]; exact M1.mono (Nat.le_succ _)
        clear HZY HZN hw M1 d0 d2 d3 y1
        go_wp2_with fail
        go_roundw
        case rel => exact ⟨k + 1, by go_num, by omega, M5, g1, b1⟩
        case measure => simp [intOf]; omega
    · obtain rfl : k = n := by omega
      have hltI : ¬ (k : Int) < (k : Int) := by omega
      rw [List.take_of_length_le (by omega)] at hM
      have hcf := con_alone Ad k c B l (aloneP l) gb wr (hR.s.below (b.mono hB)) (Nat.le_trans hB b.size) (by unfold maxLen; omega) (fun j hj W hb => by
        have := alone1_any (l.getD j En.nil) (zN l) mb k gb l W (hR.b _ (getD_mem (L := l) En.nil (by omega))).1 (hM.below hb hM.lt) (hg.below hb hg.lt)
        exact this)
      clear hM hg
      go_wp2_with fail
      refine hcf.mono ?_; rintro x w2 ⟨rfl, hb⟩
      go_wp2_with fail
      go_ret
      exact ⟨rfl, bcl b hb⟩
end Go.Proofs.YtgflodjohaemiaaDoor.Ky
