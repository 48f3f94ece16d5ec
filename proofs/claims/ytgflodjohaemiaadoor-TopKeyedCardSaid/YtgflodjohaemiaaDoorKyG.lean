/-
  CHARTS: Check, find, Default: walked.
-/
import Derived.Test.YtgflodjohaemiaaDoorKyF
namespace Go.Proofs.YtgflodjohaemiaaDoor.Ky
open Go.ChangeShapes Go.WideShapes Go.ChangeAt Go.RowKit Go.Maps
open Go.Proofs.YtgflodjohaemiaaDoor
open Go.Proofs.YtgflodjohaemiaaDoor.Wd
open Go.Proofs.YtgflodjohaemiaaDoor.Sl
open Go.Proofs.YtgflodjohaemiaaDoor.Mp (Smap wpList_look_yes wpList_look_no wpList_mput mput mput_same mput_other kS hR)
open Go.Proofs.YtgflodjohaemiaaDoor.Mr (Rmap rk row_key rowV)
open Go.Proofs.YtgflodjohaemiaaDoor.Utf (L)
set_option linter.unusedVariables false
set_option linter.unusedSimpArgs false
theorem size_al (w : World) (o : Obj) : (w.alloc o).heap.size = w.heap.size + 1 := Array.size_push ..
noncomputable def chE (l : List En) : Nat := if 4096 < l.length then 6 else if l.any (fun e => !rgB e) then 2 else if twB l then 8 else if !alB l then 3 else if shB l then 7 else 0
theorem rg_of {l : List En} (h : l.any (fun e => !rgB e) = false) : ∀ e ∈ l, rgB e = true := fun e he => by
  rw [List.any_eq_false] at h
  have := h e he
  simpa using this
theorem rg_n {e : En} (h : rgB e = true) : 1 ≤ e.n ∧ e.n ≤ 32 := by
  unfold rgB at h
  simp only [Bool.and_eq_true, decide_eq_true_eq] at h
  exact h.2.2.1
set_option maxRecDepth 100000 in
set_option maxHeartbeats 6400000 in
theorem chk_any (Ad : Option Addr) (n c B : Nat) (l : List En) (w : World) (hR : ChR w B Ad n c l) (hB : B ≤ w.heap.size) : Calls Tryd.prog 6 #[.slice Ad n c] w fun x w' => x = .returned (.int .i64 (chE l : Nat)) ∧ Below w.heap.size w w' := by
  have hlen := hR.s.len
  have hm := hR.m
  have hE : chE l = if 4096 < n then 6 else if l.any (fun e => !rgB e) then 2 else if twB l then 8 else if !alB l then 3 else if shB l then 7 else 0 := by rw [← hlen]; rfl
  have HE := Lib.hid hE; clear hE
  by_cases hn : 4096 < n
  · have hnI : (4096 : Int) < (n : Int) := by omega
    rw [if_pos hn] at HE
    go_enter Tryd.func6, Tryd.ntmps6
    go_wp2_with fail
    go_ret
    exact ⟨by rw [HE.out]; rfl, Below.refl _ w⟩
  · have hnI : ¬ (4096 : Int) < (n : Int) := by omega
    rw [if_neg hn] at HE
    have hc := con_check Ad n c B l (fun e => !rgB e) w hR.s hB hm (fun k hk W b => check1_any _ W B (Nat.le_trans hB b.size) ((hR.b _ (getD_mem (L := l) En.nil (by omega))).below (b.mono hB)))
    have ht := fun W (b : Below w.heap.size w W) => twice_any Ad n c B l W (hR.below (b.mono hB)) (Nat.le_trans hB b.size)
    have ha := fun W (b : Below w.heap.size w W) => alone_any Ad n c B l W (hR.below (b.mono hB)) (Nat.le_trans hB b.size)
    have hs := fun (h : l.any (fun e => !rgB e) = false) W (b : Below w.heap.size w W) => shared_any Ad n c B l W (hR.below (b.mono hB)) (Nat.le_trans hB b.size) (by omega) (fun e he => (rg_n (rg_of h e he)).2)
    generalize l.any (fun e => !rgB e) = r at *
    generalize twB l = t at *
    generalize alB l = a at *
    generalize shB l = s at *
    clear hR
    cases r with
    | true =>
      go_enter Tryd.func6, Tryd.ntmps6
      go_wp2_with fail
      refine hc.mono ?_; rintro x w1 ⟨rfl, b1⟩
      go_wp2_with fail
      go_ret
      exact ⟨by rw [HE.out]; rfl, b1⟩
    | false =>
    have hs2 := hs rfl
    clear hs
    cases t with
    | true =>
      go_enter Tryd.func6, Tryd.ntmps6
      go_wp2_with fail
      refine hc.mono ?_; rintro x w1 ⟨rfl, b1⟩
      go_wp2_with fail
      refine (ht _ b1).mono ?_; rintro x w2 ⟨rfl, b2⟩
      have b2 := bcl b1 b2
      go_wp2_with fail
      go_ret
      exact ⟨by rw [HE.out]; rfl, b2⟩
    | false =>
    cases a with
    | false =>
      go_enter Tryd.func6, Tryd.ntmps6
      go_wp2_with fail
      refine hc.mono ?_; rintro x w1 ⟨rfl, b1⟩
      go_wp2_with fail
      refine (ht _ b1).mono ?_; rintro x w2 ⟨rfl, b2⟩
      have b2 := bcl b1 b2
      go_wp2_with fail
      refine (ha _ b2).mono ?_; rintro x w3 ⟨rfl, b3⟩
      have b3 := bcl b2 b3
      go_wp2_with fail
      go_ret
      exact ⟨by rw [HE.out]; rfl, b3⟩
    | true =>
    cases s with
    | true =>
      go_enter Tryd.func6, Tryd.ntmps6
      go_wp2_with fail
      refine hc.mono ?_; rintro x w1 ⟨rfl, b1⟩
      go_wp2_with fail
      refine (ht _ b1).mono ?_; rintro x w2 ⟨rfl, b2⟩
      have b2 := bcl b1 b2
      go_wp2_with fail
      refine (ha _ b2).mono ?_; rintro x w3 ⟨rfl, b3⟩
      have b3 := bcl b2 b3
      go_wp2_with fail
      refine (hs2 _ b3).mono ?_; rintro x w4 ⟨rfl, b4⟩
      have b4 := bcl b3 b4
      go_wp2_with fail
      go_ret
      exact ⟨by rw [HE.out]; rfl, b4⟩
    | false =>
      go_enter Tryd.func6, Tryd.ntmps6
      go_wp2_with fail
      refine hc.mono ?_; rintro x w1 ⟨rfl, b1⟩
      go_wp2_with fail
      refine (ht _ b1).mono ?_; rintro x w2 ⟨rfl, b2⟩
      have b2 := bcl b1 b2
      go_wp2_with fail
      refine (ha _ b2).mono ?_; rintro x w3 ⟨rfl, b3⟩
      have b3 := bcl b2 b3
      go_wp2_with fail
      refine (hs2 _ b3).mono ?_; rintro x w4 ⟨rfl, b4⟩
      have b4 := bcl b3 b4
      go_wp2_with fail
      go_ret
      exact ⟨by rw [HE.out]; rfl, b4⟩
set_option maxRecDepth 100000 in
set_option maxHeartbeats 6400000 in
theorem idx_find (A : Option Addr) (n c B : Nat) (l : List En) (p : En → Bool) (g1 g2 : Nat) (w : World) (hR : Sls En.C 3 w B A n l) (hB : B ≤ w.heap.size) (hm : n ≤ maxLen)
    (hc : ∀ k, k < n → ∀ W, Below w.heap.size w W → Calls Tryd.prog 36 #[.agg (l.getD k En.nil).C, .pointer (some ⟨g1, 0, none⟩), .pointer (some ⟨g2, 0, none⟩)] W fun x w' => x = .returned (.bool (p (l.getD k En.nil))) ∧ Below W.heap.size W w') :
    Calls Tryd.prog 31 #[.slice A n c, .func (.func 36) #[] #[.pointer (some ⟨g1, 0, none⟩), .pointer (some ⟨g2, 0, none⟩)]] w fun x w' => x = .returned (.int .i64 (fiV p l)) ∧ Below w.heap.size w w' := by
  have hll := hR.len
  unfold maxLen at hm
  have HC := Lib.hid hc; clear hc
  go_enter Tryd.func31, Tryd.ntmps31
  go_wp2_with fail
  go_loopw [5, 8] (fun _ i wr => ∃ k : Nat, i = .int .i64 (k : Int) ∧ k ≤ n ∧ (∀ j, j < k → p (l.getD j En.nil) = false) ∧ Below w.heap.size w wr) (fun _ i _ => n - (intOf i).toNat)
  case atStart => exact ⟨0, rfl, Nat.zero_le _, fun j hj => absurd hj (Nat.not_lt_zero _), Below.refl _ _⟩
  case round =>
    obtain ⟨k, rfl, hk, hall, b⟩ := hrel
    have HA := Lib.hid hall; clear hall
    by_cases hlt : k < n
    · have hltI : (k : Int) < (n : Int) := by omega
      have hkl : k < l.length := by omega
      obtain ⟨ad, eA, hrow⟩ := (hR.below (b.mono hB)).row (fun _ => rfl) En.nil hlt
      subst eA
      have hcc := HC.out k hlt wr b
      obtain ⟨a, ha⟩ : ∃ a, l.getD k En.nil = a := ⟨_, rfl⟩
      rw [ha] at hrow hcc
      obtain ⟨pb, hpb⟩ : ∃ b, p a = b := ⟨_, rfl⟩
      rw [hpb] at hcc
      have HP := Lib.hid (show p (l.getD k En.nil) = pb by rw [ha]; exact hpb)
      clear ha hpb
      go_wp2_with (refine wpList_at_g rfl 58 _ rfl B _ a.C rfl _ hrow Tryd.underlying58 rfl (by kernel_rfl) ?_)
      refine hcc.mono ?_; rintro x W1 ⟨rfl, hb⟩
      have b1 := bcl b hb; clear hb hcc hrow
      cases pb with
      | false =>
        have HS := Lib.hid (show ∀ j, j < k + 1 → p (l.getD j En.nil) = false from fun j hj => by
          by_cases q : j = k
          · rw [q]; exact HP.out
          · exact HA.out j (by omega))
        go_wp2_with fail
        go_roundw
        case rel => exact ⟨k + 1, by go_num, by omega, HS.out, b1⟩
        case measure => simp [intOf]; omega
      | true =>
        have HF := Lib.hid (fi_yes hkl HA.out HP.out)
        go_wp2_with fail
        go_ret
        exact ⟨by rw [HF.out]; rfl, b1⟩
    · obtain rfl : k = n := by omega
      have hltI : ¬ (k : Int) < (k : Int) := by omega
      have HF := Lib.hid (fi_no (p := p) (l := l) (d := En.nil) (fun j hj => HA.out j (by omega)))
      go_wp2_with fail
      go_ret
      exact ⟨by rw [HF.out]; rfl, b⟩
def finP (k t : ByteArray) (e : En) : Bool := decide (L e.ky = L k) && decide (L e.te = L t)
set_option maxRecDepth 100000 in
set_option maxHeartbeats 6400000 in
theorem find1_any (e : En) (k t : ByteArray) (g1 g2 : Nat) (w : World) (h1 : Blk w g1 9 #[.string k]) (h2 : Blk w g2 9 #[.string t]) :
    Calls Tryd.prog 36 #[.agg e.C, .pointer (some ⟨g1, 0, none⟩), .pointer (some ⟨g2, 0, none⟩)] w fun x w' => x = .returned (.bool (finP k t e)) ∧ Below w.heap.size w w' := by
  have b0 := bal (Below.refl _ w) (.cells e.C 58); have x0 := Blk.new w 58 e.C
  have g1' := h1.alloc (.cells e.C 58); have g2' := h2.alloc (.cells e.C 58)
  clear h1 h2
  have HP := Lib.hid (show finP k t e = (decide (L e.ky = L k) && decide (L e.te = L t)) from rfl)
  have p1 : (e.ky.toList == k.toList) = decide (L e.ky = L k) := by rw [Lib.toList_data, Lib.toList_data, Bool.eq_iff_iff, beq_iff_eq, decide_eq_true_iff]; exact Iff.rfl
  have p2 : (e.te.toList == t.toList) = decide (L e.te = L t) := by rw [Lib.toList_data, Lib.toList_data, Bool.eq_iff_iff, beq_iff_eq, decide_eq_true_iff]; exact Iff.rfl
  generalize decide (L e.ky = L k) = q1 at *
  generalize decide (L e.te = L t) = q2 at *
  go_enter Tryd.func36, Tryd.ntmps36
  go_upto_region 1 with fail
  generalize w.alloc (.cells e.C 58) = V at *
  obtain ⟨q, hq⟩ : ∃ q, w.heap.size = q := ⟨_, rfl⟩
  have x1 : Blk V q 58 e.C := by rw [← hq]; exact x0
  rw [hq]
  have c0 : V.cell? ⟨g1, 0, none⟩ = some (.string k) := g1'.cell 0
  have c1 : V.cell? ⟨g2, 0, none⟩ = some (.string t) := g2'.cell 0
  have c2 : V.cell? ⟨q, 0, none⟩ = some (.string e.ky) := x1.cell 0
  have c3 : V.cell? ⟨q, 1, none⟩ = some (.string e.te) := x1.cell 1
  clear x0 x1 hq g1' g2'
  cases q1 with
  | false =>
    cases q2 <;>
    · go_wp2_with fail
      go_ret
      exact ⟨by rw [HP.out]; rfl, b0⟩
  | true =>
    cases q2 <;>
    · go_wp2_with fail
      go_ret
      exact ⟨by rw [HP.out]; rfl, b0⟩
set_option maxRecDepth 100000 in
set_option maxHeartbeats 6400000 in
theorem find_any (Ad : Option Addr) (n c B : Nat) (l : List En) (k t : ByteArray) (w : World) (hR : ChR w B Ad n c l) (hB : B ≤ w.heap.size) :
    Calls Tryd.prog 22 #[.slice Ad n c, .string k, .string t] w fun x w' => x = .returned (.int .i64 (fiV (finP k t) l)) ∧ Below w.heap.size w w' := by
  have b1 := bal (Below.refl _ w) (.cells #[.string k] 9)
  have x1 := Blk.new w 9 #[.string k]
  have b2 := bal b1 (.cells #[.string t] 9)
  have x2 := Blk.new (w.alloc (.cells #[.string k] 9)) 9 #[.string t]
  have y1 := x1.alloc (.cells #[.string t] 9)
  have hi := fun g1 g2 W (b : Below w.heap.size w W) (z1 : Blk W g1 9 #[.string k]) (z2 : Blk W g2 9 #[.string t]) =>
    idx_find Ad n c B l (finP k t) g1 g2 W (hR.below (b.mono hB)).s (Nat.le_trans hB b.size) hR.m (fun j hj V bv => find1_any (l.getD j En.nil) k t g1 g2 V (z1.below bv z1.lt) (z2.below bv z2.lt))
  go_enter Tryd.func22, Tryd.ntmps22
  go_upto_region 1 with fail
  rw [show (w.alloc (.cells #[.string k] 9)).heap.size = w.heap.size + 1 from size_al _ _] at x2
  have hii := hi w.heap.size (w.heap.size + 1) _ b2 y1 x2
  clear hi hR x1 x2 y1 b1
  generalize (w.alloc (.cells #[.string k] 9)).alloc (.cells #[.string t] 9) = V at *
  go_wp2_with fail
  refine hii.mono ?_; rintro x w1 ⟨rfl, b3⟩
  have b4 := bcl b2 b3
  go_wp2_with fail
  go_ret
  exact ⟨rfl, b4⟩
abbrev w001 : ByteArray := ⟨#[48, 48, 49]⟩
/-- a key's own zone -/
def dfZ (l : List En) (k : ByteArray) : ByteArray := match l.findIdx? (finP k w001) with | some i => (l.getD i En.nil).zs.getD 0 ByteArray.empty | none => ByteArray.empty
set_option maxRecDepth 100000 in
set_option maxHeartbeats 6400000 in
theorem def_any (Ad : Option Addr) (n c B i : Nat) (l : List En) (k : ByteArray) (w : World) (hR : ChR w B Ad n c l) (hB : B ≤ w.heap.size) (hC : chE l = 0) (hi : l.findIdx? (finP k w001) = some i) (hin : i < n) (h1 : 1 ≤ (l.getD i En.nil).n) :
    Calls Tryd.prog 8 #[.slice Ad n c, .string k] w fun x w' => x = .returned (.tuple #[.string (dfZ l k), .int .i64 0]) ∧ Below w.heap.size w w' := by
  have hlen := hR.s.len
  have hc := chk_any Ad n c B l w hR hB
  rw [hC] at hc
  have hf := fun W (b : Below w.heap.size w W) => find_any Ad n c B l k w001 W (hR.below (b.mono hB)) (Nat.le_trans hB b.size)
  rw [show fiV (finP k w001) l = (i : Int) from by unfold fiV; rw [hi]] at hf
  have HZ := Lib.hid (show dfZ l k = (l.getD i En.nil).zs.getD 0 ByteArray.empty from by unfold dfZ; rw [hi])
  have hiI : (i : Int) < (n : Int) := by omega
  have hi0 : ¬ (i : Int) < 0 := by omega
  have hrr := fun W (b : Below w.heap.size w W) => ((hR.s.below (b.mono hB)).row (fun _ => rfl) En.nil hin)
  have hzz := fun W (b : Below w.heap.size w W) => ((hR.b _ (getD_mem (L := l) En.nil (k := i) (by omega))).2.2.1.below (b.mono hB)).row (fun _ => rfl) ByteArray.empty (k := 0) (by omega)
  obtain ⟨e, he⟩ : ∃ e, l.getD i En.nil = e := ⟨_, rfl⟩
  rw [he] at hrr h1 HZ hzz
  clear he hR hi
  have h1I : (0 : Int) < (e.n : Int) := by omega
  generalize dfZ l k = dz at *
  go_enter Tryd.func8, Tryd.ntmps8
  go_wp2_with fail
  refine hc.mono ?_; rintro x w1 ⟨rfl, b1⟩
  go_wp2_with fail
  refine (hf _ b1).mono ?_; rintro x w2 ⟨rfl, b2⟩
  have b2 := bcl b1 b2
  clear hf b1
  obtain ⟨ad, eA, hrow⟩ := hrr _ b2
  obtain ⟨az, eZ, zrow⟩ := hzz _ b2
  have c0 : w2.cell? az = some (.string (e.zs.getD 0 ByteArray.empty)) := row_c0 (row_0 zrow) rfl
  have c2 : w2.cell? ((ad.add (i * 3)).add 2) = some (.slice e.A e.n e.c) := row_cell hrow 2 _ rfl
  have c3 := row_cj hrow 2 (by decide) (v := .slice e.A e.n e.c) rfl
  rw [eZ] at c2 c3
  clear hrr hzz zrow
  subst eA
  go_wp2_with fail
  go_ret2
  exact ⟨by rw [HZ.out, List.getD_eq_getElem?_getD]; rfl, b2⟩
end Go.Proofs.YtgflodjohaemiaaDoor.Ky
