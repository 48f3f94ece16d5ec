/-
  SqueezeTells: the reference of plans and their tables, walked; then the statement's function, walked.
-/
import Derived.Test.YtefcjccapekjdaaDoorSqT
import Derived.Test.YtefcjccapekjdaaDoorSqM
import Derived.Test.YtefcjccapekjdaaDoorRfP
import Derived.Test.YtefcjccapekjdaaDoorSqP
import Derived.Test.YtefcjccapekjdaaDoorSqY
import Derived.Test.YtefcjccapekjdaaDoorSqV
import Derived.Test.YtefcjccapekjdaaDoorTbE
import Derived.Deep.RegionHeld3
import Derived.Deep.DrawnRows
namespace Go.Proofs.YtefcjccapekjdaaDoor.Sq
open Go.ChangeShapes Go.WideShapes Go.ChangeAt Go.RowKit
open Go.Proofs.YtefcjccapekjdaaDoor
open Go.Proofs.YtefcjccapekjdaaDoor.Wd
open Go.Proofs.YtefcjccapekjdaaDoor.Rec
open Go.Proofs.YtefcjccapekjdaaDoor.Yr
open Go.Proofs.YtefcjccapekjdaaDoor.Clk (yrV yrE)
open Go.Proofs.YtefcjccapekjdaaDoor.Civ (Tab Inv)
set_option linter.unusedVariables false
open Go.Proofs.YtefcjccapekjdaaDoor.Tb
set_option maxRecDepth 100000 in
set_option maxHeartbeats 3200000 in
theorem rcheck_loop (P : Int) (A A2 : Option Addr) (n c c2 : Nat) (l : List Rc) (q : List Int) (w : World) (hT : Tab w) (hp : PlanR w w.heap.size P A A2 n n l q) (k1 : ¬ P < 1601) (k2 : ¬ n = 0) (k3 : ¬ (400 : Int) < (n : Int)) (k5 : ¬ 10000 - (n : Int) < P) :
    Calls Tryd.prog 107 #[plV P A A2 n c n c2] w fun e w' => e = .returned (.int .i64 (plE P l q)) ∧ Below w.heap.size w w' := by
  have i0 := Inv.start hT
  have i1 := i0.alloc (.cells #[.int .i64 P, .slice A n c, .slice A2 n c2] 75)
  have x1 := Blk.new w 75 #[.int .i64 P, .slice A n c, .slice A2 n c2]
  obtain ⟨hl, hq⟩ := hp.len
  have hpp := hp.p; have hm := hp.m
  unfold maxLen at hm
  have b2 : ((n : Int) == 0) = false := by simp [k2]
  have b3 : ¬ (n : Int) < 1 := by omega
  have b4 : ((n : Int) != (n : Int)) = false := by simp
  have b5 : ¬ 9999 - (n : Int) + 1 < P := by omega
  have HY := Lib.hid (pl_yes (P := P) (l := l) (q := q) (by omega))
  have HN := Lib.hid (fun k (hk : k < l.length) => pl_no2 (P := P) (l := l) (q := q) (k := k) hk)
  go_enter Tryd.func107, Tryd.ntmps107
  go_wp2_with fail
  generalize w.alloc (.cells #[.int .i64 P, .slice A n c, .slice A2 n c2] 75) = W at *
  go_loopw [37] (fun i wr => ∃ k : Nat, i = .int .i64 k ∧ k ≤ n ∧ (∀ j, j < k → (ra_ l j).ok = true ∧ rsOk (q.getD j 0) = true) ∧ Blk wr w.heap.size 75 #[.int .i64 P, .slice A n c, .slice A2 n c2] ∧ Inv w wr) (fun i _ => n - (intOf i).toNat)
  case atStart => exact ⟨0, rfl, Nat.zero_le _, fun j hj => absurd hj (Nat.not_lt_zero _), x1, i1⟩
  case round =>
    clear x1 i1
    obtain ⟨k, rfl, hk, hall, hx, hi⟩ := hrel
    have HA := Lib.hid hall; clear hall
    by_cases hlt : k < n
    · have hlt' : (k : Int) < (n : Int) := by omega
      have hlt2 : (k : Int) < (n : Int) := by omega
      obtain ⟨ad, rfl, r1⟩ := (hp.r.below hi.2).row hlt (by omega)
      rw [ra_eq (by omega)] at r1
      have hbd : (ra_ l k).Bd := by rw [← ra_eq (show k < l.length by omega)]; exact hp.r.bd _
      have HNk := Lib.hid (HN.out k (by omega))
      have HSk := Lib.hid (fun (z : (ra_ l k).ok = true ∧ rsOk (q.getD k 0) = true) => (show ∀ j, j < k + 1 → (ra_ l j).ok = true ∧ rsOk (q.getD j 0) = true from fun j hj => by
        by_cases e : j = k
        · subst e; exact z
        · exact HA.out j (by omega)))
      have heq : q[k]'(by omega) = q.getD k 0 := by rw [List.getD_eq_getElem?_getD, List.getElem?_eq_getElem (by omega)]; rfl
      have hcell : ∀ W, Below w.heap.size w W → ∃ bd, A2 = some bd ∧ W.cell? (bd.add k) = some (.int .u8 (q.getD k 0)) := fun W hb => by
        obtain ⟨bd, e, hc⟩ := int_at (hp.e.below hb) (show k < n by omega) (show k < q.length by omega)
        rw [heq] at hc
        exact ⟨bd, e, hc⟩
      generalize ra_ l k = a at *
      generalize q.getD k 0 = z at *
      clear heq
      obtain ⟨bd, rfl, -⟩ := hcell w (Below.refl _ _)
      have hch := fun W (hT : Tab W) => Rf.rrc (r := a) hT hbd rfl
      have c1 : wr.cell? ⟨w.heap.size, 1, none⟩ = some (.slice (some ad) n c) := hx.cell 1
      have c2' : wr.cell? ⟨w.heap.size, 2, none⟩ = some (.slice (some bd) n c2) := hx.cell 2
      have hi2 := hi
      have hx2 := hx
      cases hok : a.ok with
      | false =>
        have hE := Lib.hid (HNk.out (by rw [hok]; simp))
        rw [hok] at hch
        simp only [Bool.false_eq_true, if_false] at hch
        clear hok HSk HNk hi hx hcell
        go_wp2_with (first | refine wpList_at_g rfl 26 _ rfl w.heap.size _ a.A rfl _ r1 Tryd.underlying26 rfl (by kernel_rfl) ?_ | refine wpList_store_new rfl 26 _ _ rfl rfl wr.heap.size a.A rfl rfl _ #[.int .i32 0, .int .i32 0, .int .i32 0, .int .u16 0, .int .u16 0, .int .u16 0, .int .u16 0, .int .u16 0, .int .u16 0, .int .u16 0, .int .u16 0, .int .u16 0, .int .u16 0, .int .u16 0, .int .u16 0, .int .u16 0, .int .u16 0, .int .u16 0, .int .u16 0] wr rfl rfl rfl (by kernel_rfl) (by kernel_rfl) ?_ | refine wpList_row_g rfl 26 _ rfl _ rfl _ _ _ _ hz2 Tryd.underlying26 rfl (by kernel_rfl) ?_)
        refine (hch _ hi2.1).mono ?_; rintro e w3 ⟨rfl, hb3⟩
        have i3 := hi2.call hb3
        go_wp2_with fail
        go_ret
        exact ⟨by rw [hE.out]; rfl, i3.2⟩
      | true =>
        rw [hok] at hch
        simp only [if_true] at hch
        have HOK := Lib.hid hok
        clear hi hx hok
        go_wp2_with (first | refine wpList_at_g rfl 26 _ rfl w.heap.size _ a.A rfl _ r1 Tryd.underlying26 rfl (by kernel_rfl) ?_ | refine wpList_store_new rfl 26 _ _ rfl rfl wr.heap.size a.A rfl rfl _ #[.int .i32 0, .int .i32 0, .int .i32 0, .int .u16 0, .int .u16 0, .int .u16 0, .int .u16 0, .int .u16 0, .int .u16 0, .int .u16 0, .int .u16 0, .int .u16 0, .int .u16 0, .int .u16 0, .int .u16 0, .int .u16 0, .int .u16 0, .int .u16 0, .int .u16 0] wr rfl rfl rfl (by kernel_rfl) (by kernel_rfl) ?_ | refine wpList_row_g rfl 26 _ rfl _ rfl _ _ _ _ hz2 Tryd.underlying26 rfl (by kernel_rfl) ?_)
        refine (hch _ hi2.1).mono ?_; rintro e w3 ⟨rfl, hb3⟩
        have i3 := hi2.call hb3
        have x3 := hx2.below hb3 hx2.lt
        have ce : w3.cell? ⟨w.heap.size, 2, none⟩ = some (.slice (some bd) n c2) := x3.cell 2
        obtain ⟨bd', e', hc⟩ := hcell w3 i3.2
        obtain rfl := Option.some.inj e'
        have ce1 : w3.cell? ⟨w.heap.size, 1, none⟩ = some (.slice (some ad) n c) := x3.cell 1
        by_cases h6 : 6 ≤ z
        · have hE := Lib.hid (HNk.out (by unfold rsOk; simp; omega))
          clear HSk HNk hcell HOK
          go_wp2_with fail
          go_ret
          exact ⟨by rw [hE.out]; rfl, i3.2⟩
        · have hN := Lib.hid (HSk.out ⟨HOK.out, by unfold rsOk; simp; omega⟩)
          clear HSk HNk hcell HOK
          go_wp2_with fail
          go_roundw
          case rel => exact ⟨k + 1, by go_num, by omega, hN.out, x3, i3⟩
          case measure => simp [intOf]; omega
    · obtain rfl : n = k := by omega
      have hlt' : ¬ (n : Int) < (n : Int) := by omega
      have hE := Lib.hid (HY.out (fun i hi => HA.out i (by omega)))
      go_wp2_with fail
      go_ret
      exact ⟨by rw [hE.out]; rfl, hi.2⟩
set_option maxRecDepth 100000 in
set_option maxHeartbeats 3200000 in
theorem rcheck_any (P : Int) (A A2 : Option Addr) (n c n2 c2 : Nat) (l : List Rc) (q : List Int) (w : World) (hT : Tab w) (hp : PlanR w w.heap.size P A A2 n n2 l q) :
    Calls Tryd.prog 107 #[plV P A A2 n c n2 c2] w fun e w' => e = .returned (.int .i64 (plE P l q)) ∧ Below w.heap.size w w' := by
  have i0 := Inv.start hT
  have i1 := i0.alloc (.cells #[.int .i64 P, .slice A n c, .slice A2 n2 c2] 75)
  have x1 := Blk.new w 75 #[.int .i64 P, .slice A n c, .slice A2 n2 c2]
  obtain ⟨hl, hq⟩ := hp.len
  have hpp := hp.p; have hm := hp.m; have hm2 := hp.m2
  unfold maxLen at hm hm2
  by_cases k1 : P < 1601
  · have hE := Lib.hid (pl_no (P := P) (l := l) (q := q) (by omega))
    go_enter Tryd.func107, Tryd.ntmps107
    go_wp2_with fail
    go_ret
    exact ⟨by rw [hE.out]; rfl, i1.2⟩
  · by_cases k2 : n = 0
    · have hE := Lib.hid (pl_no (P := P) (l := l) (q := q) (by omega))
      have b2 : ((n : Int) == 0) = true := by simp [k2]
      have b3 : (n : Int) < 1 := by omega
      clear k2
      go_enter Tryd.func107, Tryd.ntmps107
      go_wp2_with fail
      go_ret
      exact ⟨by rw [hE.out]; rfl, i1.2⟩
    · have b2 : ((n : Int) == 0) = false := by simp [k2]
      have b3 : ¬ (n : Int) < 1 := by omega
      by_cases k3 : (400 : Int) < (n : Int)
      · have hE := Lib.hid (pl_no (P := P) (l := l) (q := q) (by omega))
        go_enter Tryd.func107, Tryd.ntmps107
        go_wp2_with fail
        go_ret
        exact ⟨by rw [hE.out]; rfl, i1.2⟩
      · by_cases k4 : n2 = n
        · obtain rfl : n = n2 := k4.symm
          have b4 : ((n : Int) != (n : Int)) = false := by simp
          by_cases k5 : 10000 - (n : Int) < P
          · have hE := Lib.hid (pl_no (P := P) (l := l) (q := q) (by omega))
            have b5 : 9999 - (n : Int) + 1 < P := by omega
            go_enter Tryd.func107, Tryd.ntmps107
            go_wp2_with fail
            go_ret
            exact ⟨by rw [hE.out]; rfl, i1.2⟩
          · exact rcheck_loop P A A2 n c c2 l q w hT hp k1 k2 k3 k5
        · have hE := Lib.hid (pl_no (P := P) (l := l) (q := q) (by omega))
          have b4 : ((n2 : Int) != (n : Int)) = true := by simp; omega
          go_enter Tryd.func107, Tryd.ntmps107
          go_wp2_with fail
          go_ret
          exact ⟨by rw [hE.out]; rfl, i1.2⟩
set_option maxRecDepth 100000 in
set_option maxHeartbeats 6400000 in
attribute [-go_sem] run_eql_struct run_neq_struct in
theorem rtells_any (F L : Int) (A3 : Option Addr) (n3 c3 : Nat) (t : List Rc) (P : Int) (A A2 : Option Addr) (n c n2 c2 : Nat) (l : List Rc) (q : List Int) (w : World) (hT : Tab w) (hR : Recs w w.heap.size A3 n3 t) (hm3 : n3 ≤ maxLen) (hp : PlanR w w.heap.size P A A2 n n2 l q) :
    Calls Tryd.prog 57 #[tbV F L A3 n3 c3, plV P A A2 n c n2 c2] w fun e w' => e = .returned (.bool (tlOk F L t P l q)) ∧ Below w.heap.size w w' := by
  have i0 := Inv.start hT
  have i1 := (i0.alloc (.cells (tbA F L A3 n3 c3) 40)).alloc (.cells #[.int .i64 P, .slice A n c, .slice A2 n2 c2] 75)
  have x1 := (Blk.new w 40 (tbA F L A3 n3 c3)).alloc (.cells #[.int .i64 P, .slice A n c, .slice A2 n2 c2] 75)
  have y1 := blk_at (w.alloc (.cells (tbA F L A3 n3 c3) 40)) 75 #[.int .i64 P, .slice A n c, .slice A2 n2 c2] (sz1 w _ rfl)
  obtain ⟨hl, hq⟩ := hp.len
  have hpp := hp.p; have hm := hp.m; have hm2 := hp.m2
  unfold maxLen at hm hm2
  have hck := fun W (iv : Inv w W) => rcheck_any P A A2 n c n2 c2 l q W iv.1 ((hp.below iv.2).more iv.2.size)
  have hpk := fun y W (iv : Inv w W) => Rf.rpick_any F L A3 n3 c3 w.heap.size t y W iv.1 (hR.below iv.2) iv.2.size hm3
  have htc := fun W (iv : Inv w W) => Rf.rtcheck_any F L A3 n3 c3 w.heap.size t W iv.1 (hR.below iv.2) iv.2.size hm3
  have hpl := pl_01 P l q
  have HTB := Lib.hid (show tbE F L t ≠ 0 → tlOk F L t P l q = false from fun h => by
    rcases hpl with g | ⟨g, k1, k2, _⟩
    · exact tl_no g
    · refine tl_no2 (k := 0) (by omega) ?_
      unfold tlAt
      have : pkE F L t (P + ((0 : Nat) : Int)) = 2 := by
        unfold pkE; unfold tbE at h
        cases e : tbOk F L t with
        | true => rw [e] at h; simp at h
        | false => simp
      rw [this]; rfl)
  have ht2 : tbE F L t = 0 ∨ tbE F L t = 2 := by unfold tbE; split <;> simp
  rcases ht2 with ht0 | ht0
  rotate_left
  · have hE := Lib.hid (HTB.out (by rw [ht0]; decide))
    rw [ht0] at htc
    clear ht0 hpl
    go_enter Tryd.func57, Tryd.ntmps57
    go_wp2_with (first | refine wpList_row_g rfl 40 _ rfl _ rfl _ _ _ _ x1 Tryd.underlying40 rfl (by kernel_rfl) ?_)
    refine (htc _ i1).mono ?_; rintro e w2 ⟨rfl, hb2⟩
    have i2 := i1.call hb2
    go_wp2_with fail
    go_ret
    exact ⟨by rw [hE.out]; rfl, i2.2⟩
  rw [ht0] at htc
  clear ht0
  rcases hpl with h0 | ⟨h0, k1, k2, k3, k4, k5⟩
  · have hE := Lib.hid (tl_no (F := F) (L := L) (t := t) h0)
    rw [h0] at hck
    clear h0
    go_enter Tryd.func57, Tryd.ntmps57
    go_wp2_with (first | refine wpList_row_g rfl 40 _ rfl _ rfl _ _ _ _ x1 Tryd.underlying40 rfl (by kernel_rfl) ?_)
    refine (htc _ i1).mono ?_; rintro e w2 ⟨rfl, hb2⟩
    have i2 := i1.call hb2
    have y2 := y1.below hb2 y1.lt
    go_wp2_with (first | refine wpList_row_g rfl 75 _ rfl _ rfl _ _ _ _ y2 Tryd.underlying75 rfl (by kernel_rfl) ?_)
    refine (hck _ i2).mono ?_; rintro e w3 ⟨rfl, hb3⟩
    have i3 := i2.call hb3
    go_wp2_with fail
    go_ret
    exact ⟨by rw [hE.out]; rfl, i3.2⟩
  · have HY := Lib.hid (fun h => tl_yes (F := F) (L := L) (t := t) (P := P) (l := l) (q := q) h0 h)
    have HN := Lib.hid (fun k (hk : k < l.length) h => tl_no2 (F := F) (L := L) (t := t) (P := P) (l := l) (q := q) (k := k) hk h)
    rw [h0] at hck
    clear h0
    go_enter Tryd.func57, Tryd.ntmps57
    go_wp2_with (first | refine wpList_row_g rfl 40 _ rfl _ rfl _ _ _ _ x1 Tryd.underlying40 rfl (by kernel_rfl) ?_)
    refine (htc _ i1).mono ?_; rintro e w2 ⟨rfl, hb2⟩
    have i2 := i1.call hb2
    have x2 := x1.below hb2 x1.lt
    have y2 := y1.below hb2 y1.lt
    clear i1 x1 y1 hb2 i0 htc
    go_wp2_with (first | refine wpList_row_g rfl 75 _ rfl _ rfl _ _ _ _ y2 Tryd.underlying75 rfl (by kernel_rfl) ?_)
    refine (hck _ i2).mono ?_; rintro e w3 ⟨rfl, hb3⟩
    have i4 := i2.call hb3
    have x4 := x2.below hb3 x2.lt
    have y4 := y2.below hb3 y2.lt
    clear i2 x2 y2 hb3 hck
    have d2 := y4.cell 1
    simp at d2
    go_wp2_with fail
    go_loopw [20] (fun i wr => ∃ k : Nat, i = .int .i64 k ∧ k ≤ n ∧ (∀ j, j < k → tlAt F L t P l j = true) ∧ Blk wr w.heap.size 40 (tbA F L A3 n3 c3) ∧ Blk wr (w.heap.size + 1) 75 #[.int .i64 P, .slice A n c, .slice A2 n2 c2] ∧ Inv w wr) (fun i _ => n - (intOf i).toNat)
    case atStart => exact ⟨0, rfl, Nat.zero_le _, fun j hj => absurd hj (Nat.not_lt_zero _), x4, y4, i4⟩
    case round =>
      clear x4 y4 i4 d2
      obtain ⟨k, rfl, hk, hall, hx, hy, hi⟩ := hrel
      have HA := Lib.hid hall; clear hall
      by_cases hlt : k < n
      · have hlt' : (k : Int) < (n : Int) := by omega
        obtain ⟨ad, rfl, r1⟩ := (hp.r.below hi.2).row hlt (by omega)
        rw [ra_eq (by omega)] at r1
        have hbd : (ra_ l k).Bd := by rw [← ra_eq (show k < l.length by omega)]; exact hp.r.bd _
        have HNk := Lib.hid (HN.out k (by omega))
        have HSk := Lib.hid (fun (z : tlAt F L t P l k = true) => (show ∀ j, j < k + 1 → tlAt F L t P l j = true from fun j hj => by
          by_cases e : j = k
          · subst e; exact z
          · exact HA.out j (by omega)))
        have hpk2 := hpk (P + (k : Int))
        have hta : tlAt F L t P l k = (decide (pkE F L t (P + (k : Int)) = 0) && eqRc (pkR F L t (P + (k : Int))) (ra_ l k)) := rfl
        generalize pkR F L t (P + (k : Int)) = r at *
        generalize pkE F L t (P + (k : Int)) = E at *
        generalize ra_ l k = a at *
        have hqq := neq_rcc r a
        have hi2 := hi.alloc (.cells a.A 26)
        have hx2 := hx.alloc (.cells a.A 26)
        have hy2 := hy.alloc (.cells a.A 26)
        have hz2 := Blk.new wr 26 a.A
        have hd0 : (wr.alloc (.cells a.A 26)).cell? ⟨w.heap.size + 1, 0, none⟩ = some (.int .i64 P) := hy2.cell 0
        go_wp2_with (first | refine wpList_at_g rfl 26 _ rfl w.heap.size _ a.A rfl _ r1 Tryd.underlying26 rfl (by kernel_rfl) ?_ | refine wpList_store_new rfl 26 _ _ rfl rfl wr.heap.size a.A rfl rfl _ #[.int .i32 0, .int .i32 0, .int .i32 0, .int .u16 0, .int .u16 0, .int .u16 0, .int .u16 0, .int .u16 0, .int .u16 0, .int .u16 0, .int .u16 0, .int .u16 0, .int .u16 0, .int .u16 0, .int .u16 0, .int .u16 0, .int .u16 0, .int .u16 0, .int .u16 0] wr rfl rfl rfl (by kernel_rfl) (by kernel_rfl) ?_ | refine wpList_row_g rfl 40 _ rfl _ rfl _ _ _ _ hx2 Tryd.underlying40 rfl (by kernel_rfl) ?_)
        refine (hpk2 _ hi2).mono ?_; rintro e w3 ⟨rfl, hb3⟩
        have i3 := (hi2.call hb3).alloc (.cells r.A 26)
        have x3 := (hx2.below hb3 hx2.lt).alloc (.cells r.A 26)
        have y3 := (hy2.below hb3 hy2.lt).alloc (.cells r.A 26)
        have z3 := (hz2.below hb3 hz2.lt).alloc (.cells r.A 26)
        have u3 := Blk.new w3 26 r.A
        clear hi2 hx2 hy2 hz2 hb3 r1 hd0
        generalize wr.heap.size = gz at *
        by_cases h5 : E = 0
        · have h5b : (E != 0) = false := by simp [h5]
          cases he : eqRc r a with
          | false =>
            rw [he] at hqq
            have hE := Lib.hid (HNk.out (by rw [hta, he, Bool.and_false]))
            clear he HNk HSk HA hta h5
            go_wp2_with (first | refine wpList_store_new rfl 26 _ _ rfl rfl w3.heap.size r.A rfl rfl _ #[.int .i32 0, .int .i32 0, .int .i32 0, .int .u16 0, .int .u16 0, .int .u16 0, .int .u16 0, .int .u16 0, .int .u16 0, .int .u16 0, .int .u16 0, .int .u16 0, .int .u16 0, .int .u16 0, .int .u16 0, .int .u16 0, .int .u16 0, .int .u16 0, .int .u16 0] w3 rfl rfl rfl (by kernel_rfl) (by kernel_rfl) ?_ | refine wpList_row_g rfl 26 _ rfl _ rfl _ _ _ _ u3 Tryd.underlying26 rfl (by kernel_rfl) ?_ | refine wpList_row_g rfl 26 _ rfl _ rfl _ _ _ _ z3 Tryd.underlying26 rfl (by kernel_rfl) ?_)
            go_ret
            exact ⟨by rw [hE.out]; rfl, i3.2⟩
          | true =>
            rw [he] at hqq
            have hN := Lib.hid (HSk.out (by rw [hta, he, h5]; rfl))
            clear he HNk HSk HA hta h5
            go_wp2_with (first | refine wpList_store_new rfl 26 _ _ rfl rfl w3.heap.size r.A rfl rfl _ #[.int .i32 0, .int .i32 0, .int .i32 0, .int .u16 0, .int .u16 0, .int .u16 0, .int .u16 0, .int .u16 0, .int .u16 0, .int .u16 0, .int .u16 0, .int .u16 0, .int .u16 0, .int .u16 0, .int .u16 0, .int .u16 0, .int .u16 0, .int .u16 0, .int .u16 0] w3 rfl rfl rfl (by kernel_rfl) (by kernel_rfl) ?_ | refine wpList_row_g rfl 26 _ rfl _ rfl _ _ _ _ u3 Tryd.underlying26 rfl (by kernel_rfl) ?_ | refine wpList_row_g rfl 26 _ rfl _ rfl _ _ _ _ z3 Tryd.underlying26 rfl (by kernel_rfl) ?_)
            go_roundw
            case rel => exact ⟨k + 1, by go_num, by omega, hN.out, x3, y3, i3⟩
            case measure => simp [intOf]; omega
        · have h5b : (E != 0) = true := by simp [h5]
          have hE := Lib.hid (HNk.out (by rw [hta, decide_eq_false h5]; rfl))
          clear HNk HSk HA hta h5
          go_wp2_with (first | refine wpList_store_new rfl 26 _ _ rfl rfl w3.heap.size r.A rfl rfl _ #[.int .i32 0, .int .i32 0, .int .i32 0, .int .u16 0, .int .u16 0, .int .u16 0, .int .u16 0, .int .u16 0, .int .u16 0, .int .u16 0, .int .u16 0, .int .u16 0, .int .u16 0, .int .u16 0, .int .u16 0, .int .u16 0, .int .u16 0, .int .u16 0, .int .u16 0] w3 rfl rfl rfl (by kernel_rfl) (by kernel_rfl) ?_ | refine wpList_row_g rfl 26 _ rfl _ rfl _ _ _ _ u3 Tryd.underlying26 rfl (by kernel_rfl) ?_ | refine wpList_row_g rfl 26 _ rfl _ rfl _ _ _ _ z3 Tryd.underlying26 rfl (by kernel_rfl) ?_)
          go_ret
          exact ⟨by rw [hE.out]; rfl, i3.2⟩
      · obtain rfl : n = k := by omega
        have hlt' : ¬ (n : Int) < (n : Int) := by omega
        have hE := Lib.hid (HY.out (fun i hi => HA.out i (by omega)))
        go_wp2_with fail
        go_ret
        exact ⟨by rw [hE.out]; rfl, hi.2⟩
set_option maxRecDepth 100000 in
set_option maxHeartbeats 6400000 in
theorem rmissed_any (key : ByteArray) (P : Int) (A A2 : Option Addr) (n c n2 c2 : Nat) (l : List Rc) (q : List Int) (w : World) (hT : Tab w) (hp : PlanR w w.heap.size P A A2 n n2 l q) (hn100 : n2 ≤ 100) :
    Calls Tryd.prog 60 #[.string key, plV P A A2 n c n2 c2] w fun e w' => ∃ (A' : Option Addr) (c' : Nat), e = .returned (.slice A' (msL P q).length c') ∧ (msL P q).length ≤ c' ∧ Reads w' w'.heap.size 3 A' (msL P q).length (flatM key (msL P q)) ∧ Below w.heap.size w w' := by
  have i0 := Inv.start hT
  have i1 := i0.alloc (.cells #[.int .i64 P, .slice A n c, .slice A2 n2 c2] 75)
  have x1 := Blk.new w 75 #[.int .i64 P, .slice A n c, .slice A2 n2 c2]
  obtain ⟨hl, hq⟩ := hp.len
  have hpp := hp.p; have hm := hp.m; have hm2 := hp.m2
  unfold maxLen at hm hm2
  obtain ⟨i0i, hi0, hz0, hz1, hz2⟩ := info_parts ms_info
  have HL := Lib.hid (show msL P q = msK P q (msN P n2) by unfold msL; rw [hq])
  go_enter Tryd.func60, Tryd.ntmps60
  go_upto_region 2 with fail
  generalize w.alloc (.cells #[.int .i64 P, .slice A n c, .slice A2 n2 c2] 75) = W at *
  have d2 : W.cell? ⟨w.heap.size, 2, none⟩ = some (.slice A2 n2 c2) := x1.cell 2
  have hown0 := World.ownsRow_nil W w.heap.size 89 3
  go_wp2_with fail
  go_loopw [11, 5] (fun i v wr => ∃ k : Nat, i = .int .i64 k ∧ k ≤ n2 ∧ wr.ownsRow w.heap.size 89 3 v (msK P q (min k (msN P n2))).length (flatM key (msK P q (min k (msN P n2)))) ∧ Blk wr w.heap.size 75 #[.int .i64 P, .slice A n c, .slice A2 n2 c2] ∧ Inv w wr) (fun i _ _ => n2 - (intOf i).toNat)
  case atStart => exact ⟨0, rfl, Nat.zero_le _, by rw [Nat.zero_min]; exact hown0, x1, i1⟩
  case round =>
    clear hown0 x1 i1 d2
    obtain ⟨k, rfl, hk, hown, hx, hi⟩ := hrel
    have d0 : wr.cell? ⟨w.heap.size, 0, none⟩ = some (.int .i64 P) := hx.cell 0
    have hlen := msK_len P q (min k (msN P n2))
    by_cases hlt : k < n2
    · have hlt' : (k : Int) < (n2 : Int) := by omega
      obtain ⟨bd, rfl, hc⟩ := int_at (hp.e.below hi.2) (show k < n2 by omega) (show k < q.length by omega)
      have heq : q[k]'(by omega) = q.getD k 0 := by rw [List.getD_eq_getElem?_getD, List.getElem?_eq_getElem (by omega)]; rfl
      rw [heq] at hc
      have hst : k < msN P n2 → msK P q (min (k + 1) (msN P n2)) = if q.getD k 0 = 0 then msK P q (min k (msN P n2)) else msK P q (min k (msN P n2)) ++ [(P + (k : Int), q.getD k 0)] := fun h => by
        rw [Nat.min_eq_left (show k + 1 ≤ msN P n2 by omega), Nat.min_eq_left (show k ≤ msN P n2 by omega)]; rfl
      have hsn : ¬ k < msN P n2 → msK P q (min (k + 1) (msN P n2)) = msK P q (min k (msN P n2)) := fun h => by
        rw [Nat.min_eq_right (show msN P n2 ≤ k + 1 by omega), Nat.min_eq_right (show msN P n2 ≤ k by omega)]
      have hkN : k < msN P n2 ↔ P ≤ 9999 - (k : Int) := by unfold msN; split <;> omega
      clear heq
      generalize q.getD k 0 = z at *
      obtain ⟨Lk1, hLk1⟩ : ∃ L, msK P q (min (k + 1) (msN P n2)) = L := ⟨_, rfl⟩
      rw [hLk1] at hst hsn
      obtain ⟨Lk, hLk⟩ : ∃ L, msK P q (min k (msN P n2)) = L := ⟨_, rfl⟩
      rw [hLk] at hown hst hsn hlen
      have hlk : Lk.length ≤ 100 := by omega
      clear hLk hlen
      by_cases hz : z = 0
      · have HST := Lib.hid (hLk1.trans (show Lk1 = Lk by
          by_cases h : k < msN P n2
          · rw [hst h, if_pos hz]
          · exact hsn h))
        have hzb : (z != 0) = false := by simp [hz]
        clear hst hsn hkN hLk1
        go_wp2_with fail
        go_roundw
        case rel => exact ⟨k + 1, by go_num, by omega, by rw [HST.out]; exact hown, hx, hi⟩
        case measure => simp [intOf]; omega
      · have hzb : (z != 0) = true := by simp [hz]
        by_cases hP : P ≤ 9999 - (k : Int)
        · have HST := Lib.hid (hLk1.trans (show Lk1 = Lk ++ [(P + (k : Int), z)] by rw [hst (hkN.2 hP), if_neg hz]))
          clear hst hsn hkN hLk1
          go_wp2_with (at_builtin; refine wpList_append_any _ rfl (.tmp 25) (.tmp 33) 81 rfl w.heap.size 89 i0i _ 3 32 Tryd.underlying81 hi0 hz0 hz1 hz2 rfl (by decide) _ Lk.length _ rfl (hown.alloc _) _ _ 1 1 (miA key (P + (k : Int), z)).toList rfl (reads_mi _ _ key (P + (k : Int), z) rfl) (mi_one key (P + (k : Int), z)) (by unfold maxLen; omega) (by omega) (by have := hi.2.size; simp at this ⊢; omega) ?_; intro v1 w1 hown1 hg1 _)
          have hi2 := hi.alloc (.cells (miA key (P + (k : Int), z)) 89)
          have hx2 := hx.alloc (.cells (miA key (P + (k : Int), z)) 89)
          have bB := Below.grown hi2.2 hg1 hi2.2.size (fun g hg => (own_lt9 hown g hg).1)
          have hx3 := hx2.grown hg1 (fun e => own_blk_ne (hown.alloc _) hx2 (by decide) e.symm)
          go_roundw
          case rel => exact ⟨k + 1, by go_num, by omega, by rw [HST.out]; simp only [List.length_append, flatM_app]; exact hown1, hx3, ⟨hT.below hT.1 bB, bB⟩⟩
          case measure => simp [intOf]; omega
        · have HST := Lib.hid (hLk1.trans (show Lk1 = Lk from hsn (fun h => hP (hkN.1 h))))
          clear hst hsn hkN hLk1
          go_wp2_with fail
          go_roundw
          case rel => exact ⟨k + 1, by go_num, by omega, by rw [HST.out]; exact hown, hx, hi⟩
          case measure => simp [intOf]; omega
    · obtain rfl : n2 = k := by omega
      have hlt' : ¬ (n2 : Int) < (n2 : Int) := by omega
      have HK := Lib.hid (show min n2 (msN P n2) = msN P n2 by unfold msN; split <;> omega)
      rw [HK.out] at hown
      obtain ⟨A', c', rfl, hcc, hrd⟩ := own_form9 hown (by rw [flatM_len]; omega)
      clear hown
      go_wp2_with fail
      go_ret
      exact ⟨A', c', by rw [HL.out]; rfl, by rw [HL.out]; exact hcc, by rw [HL.out]; exact hrd, hi.2⟩
end Go.Proofs.YtefcjccapekjdaaDoor.Sq
namespace Go.Proofs.YtefcjccapekjdaaDoor.Sq
open Go.ChangeShapes Go.WideShapes Go.ChangeAt Go.RowKit
open Go.Proofs.YtefcjccapekjdaaDoor
open Go.Proofs.YtefcjccapekjdaaDoor.Wd
open Go.Proofs.YtefcjccapekjdaaDoor.Rec
open Go.Proofs.YtefcjccapekjdaaDoor.Yr
open Go.Proofs.YtefcjccapekjdaaDoor.Clk (yrV yrE)
open Go.Proofs.YtefcjccapekjdaaDoor.Civ (Tab Inv)
set_option linter.unusedVariables false
open Go.Proofs.YtefcjccapekjdaaDoor.Tb
open Go.Proofs.YtefcjccapekjdaaDoor.Ld
set_option linter.unusedSimpArgs false
/-- some records of a plan -/
abbrev win (l : List Rc) (i M : Nat) : List Rc := (l.drop i).take M
theorem win_len {l : List Rc} {i M : Nat} (h : i + M ≤ l.length) : (win l i M).length = M := by unfold win; rw [List.length_take, List.length_drop]; omega
theorem win_at {l : List Rc} {i M k : Nat} (h : k < M) : ra_ (win l i M) k = ra_ l (i + k) := by
  show (win l i M).getD k Rc.nil = l.getD (i + k) Rc.nil
  unfold win
  rw [List.getD_eq_getElem?_getD, List.getD_eq_getElem?_getD, List.getElem?_take_of_lt h, List.getElem?_drop]
theorem win_recs {w : World} {B n i M : Nat} {ad : Addr} {l : List Rc} (h : Recs w B (some ad) n l) (hi : i + M ≤ n) : Recs w B (some (ad.add (i * 19))) M (win l i M) := by
  have hln := h.1
  refine ⟨win_len (by omega), ⟨by rw [flat_len, win_len (by omega)], fun hp => ?_⟩, fun r hr => h.2.2 r (List.mem_of_mem_drop (List.mem_of_mem_take hr))⟩
  obtain ⟨ad', e, hb, -⟩ := h.2.1.2 (by omega)
  obtain rfl := Option.some.inj e
  refine ⟨_, rfl, by rw [block_of_add]; exact hb, fun j v hv => ?_⟩
  have hj : j < (flat (win l i M)).length := by
    rcases Nat.lt_or_ge j (flat (win l i M)).length with g | g
    · exact g
    · rw [List.getElem?_eq_none g] at hv; cases hv
  rw [flat_len, win_len (by omega)] at hj
  obtain ⟨ad', e, hr⟩ := h.row (k := i + j / 19) (by omega) (by omega)
  obtain rfl := Option.some.inj e
  have q1 := flat_at (win l i M) (j / 19) (j % 19) (by rw [win_len (by omega)]; omega) (Nat.mod_lt _ (by decide))
  rw [show 19 * (j / 19) + j % 19 = j by omega] at q1
  rw [q1] at hv
  have q3 : (win l i M)[j / 19]'(by rw [win_len (by omega)]; omega) = l[i + j / 19]'(by omega) := by
    rw [ra_eq, ra_eq]; exact win_at (by omega)
  rw [q3] at hv
  have := hr.2 (j % 19) v hv
  rw [add_of_add] at this ⊢
  rw [← this]; congr 2; omega
theorem win_no {P : Int} {l : List Rc} {q : List Int} {a b i M : Nat} (hS : SqT l a b) (hM : 1 ≤ M) (hi : i + M ≤ l.length) (h : M < b - a + 1 ∨ (M = b - a + 1 ∧ i ≠ a ∧ i ≤ a)) :
    tlOk (P + (i : Int)) (P + (i : Int) + (M : Int) - 1) (win l i M) P l q = false := by
  have h1 := hS.le; have h2 := hS.lt
  have hne : a ≠ b := by
    intro e
    have := hS.one e
    omega
  have hx : a < i ∨ i + M - 1 < b := by omega
  rcases hx with g | g
  · by_cases e : ra_ l i = ra_ l 0
    · refine pick_no (k := a + 1) (j := 0) (by omega) (by unfold idx; omega) ?_
      rw [win_at (by omega), Nat.add_zero, e]
      exact fun h => hS.a1 hne h.symm
    · refine pick_no (k := 0) (j := 0) (by omega) (by unfold idx; omega) ?_
      rw [win_at (by omega), Nat.add_zero]; exact e
  · by_cases e : ra_ l (i + (M - 1)) = ra_ l (l.length - 1)
    · refine pick_no (k := b - 1) (j := M - 1) (by omega) (by unfold idx; omega) ?_
      rw [win_at (by omega), e]
      exact fun h => hS.b1 hne h.symm
    · refine pick_no (k := l.length - 1) (j := M - 1) (by omega) (by unfold idx; omega) ?_
      rw [win_at (by omega)]; exact e
theorem win_yes {P : Int} {l : List Rc} {q : List Int} {a b : Nat} (h : plE P l q = 0) (hS : SqT l a b) :
    tlOk (P + (a : Int)) (P + (a : Int) + ((b - a + 1 : Nat) : Int) - 1) (win l a (b - a + 1)) P l q = true := by
  have h1 := hS.le
  have e : P + (a : Int) + ((b - a + 1 : Nat) : Int) - 1 = P + (b : Int) := by omega
  rw [e]; exact sq_tells h hS
theorem own_setRow {w : World} {base : Nat} {e : TypeId} {size : Nat} {v : Value} {n : Nat} {xs : List Value} (h : w.ownsRow base e size v n xs) (g : Nat) (cs : Array Value) (hne : v.ownBlock ≠ some g) : (w.setRow g cs).ownsRow base e size v n xs := by
  refine ⟨h.1, ?_⟩
  rcases h.2 with h' | ⟨b, cap, cur, h1, h2, h3, h4⟩
  · exact .inl h'
  · refine .inr ⟨b, cap, cur, h1, h2, ?_, h4⟩
    have hb : b ≠ g := fun e => hne (by rw [h1, e]; rfl)
    exact (setRow_other w g b cs hb).trans h3
theorem own_formg {w : World} {base size n : Nat} {e : TypeId} {v : Value} {xs : List Value} (h : w.ownsRow base e size v n xs) (hn : 0 < n) : ∃ g c, v = .slice (some ⟨g, 0, none⟩) n c := by
  rcases h.2 with ⟨_, h1⟩ | ⟨g, cap, cur, hv, h2, h3, h4, h5⟩
  · omega
  · exact ⟨g, cap, hv⟩
theorem recs_far {w : World} {B g9 M g : Nat} {l : List Rc} (h : Recs w B (some ⟨g9, 0, none⟩) M l) (hne : g9 ≠ g) (cs : Array Value) : Recs (w.setRow g cs) B (some ⟨g9, 0, none⟩) M l := by
  refine ⟨h.1, ⟨h.2.1.1, fun hp => ?_⟩, h.2.2⟩
  obtain ⟨ad, e, hb, hc⟩ := h.2.1.2 hp
  refine ⟨ad, e, hb, fun j v hv => ?_⟩
  obtain rfl := Option.some.inj e
  rw [cell_setRow_other _ _ _ _ (by rw [block_of_add]; exact hne)]
  exact hc j v hv
theorem run_win (ad : Addr) (n c i M : Nat) (h1 : 1 ≤ M) (h2 : i + M ≤ n) (h3 : n ≤ c) (W : World) : (Instr.slice 38 (.slice (some ad) n c) (some (.int .i64 i)) (some (.int .i64 ((i : Int) + (M : Int)))) none).run Tryd.prog W = .ok (.slice (some (ad.add (i * 19))) M (c - i)) W := by
  rw [run_slice_lh W 38 (some ad) n c (by kernel_rfl) .i64 .i64 (i : Int) ((i : Int) + (M : Int)) (by omega) (by omega) (by omega)]
  have hs : (sizeOf (Tryd.prog.elem 38)).run Tryd.prog W = .ok 19 W := by kernel_rfl
  rw [hs]
  show Result.ok (sliced (some ad) (i : Int).toNat ((i : Int) + (M : Int)).toNat c 19) W = _
  rw [show ((i : Int) + (M : Int)).toNat = i + M by omega, Int.toNat_natCast]
  unfold sliced; rw [if_neg (by omega), show i + M - i = M by omega]; rfl
theorem own_x (w : World) {base : Nat} (hb : base ≤ w.heap.size) : (w.alloc (.cells (#[] : Array Value) 26)).ownsRow base 26 19 (.slice (some ⟨w.heap.size, 0, none⟩) 0 0) 0 [] :=
  World.ownsRow_lit (base := base) (e := 26) (size := 19) w (#[] : Array Value) 0 hb (by unfold maxLen; omega) rfl
set_option maxRecDepth 100000 in
set_option maxHeartbeats 12800000 in
attribute [-go_sem] run_eql_struct run_neq_struct run_slice_l run_slice_h run_slice_lh run_slice_any in
theorem rtable_bad (P : Int) (A A2 : Option Addr) (n c n2 c2 : Nat) (l : List Rc) (q : List Int) (w : World) (hT : Tab w) (hp : PlanR w w.heap.size P A A2 n n2 l q) (hnc : n ≤ c) (h0 : plE P l q = 2) :
    Calls Tryd.prog 55 #[plV P A A2 n c n2 c2] w fun r w' => r = .returned (.tuple #[tbV 0 0 none 0 0, .int .i64 2]) ∧ Below w.heap.size w w' := by
  have i0 := Inv.start hT
  have i1 := (i0.alloc (.cells #[.int .i64 P, .slice A n c, .slice A2 n2 c2] 75)).alloc (.cells #[.int .i64 0, .int .i64 0, .slice none 0 0] 40)
  have x1 := (Blk.new w 75 #[.int .i64 P, .slice A n c, .slice A2 n2 c2]).alloc (.cells #[.int .i64 0, .int .i64 0, .slice none 0 0] 40)
  have z1 := blk_at (w.alloc (.cells #[.int .i64 P, .slice A n c, .slice A2 n2 c2] 75)) 40 #[.int .i64 0, .int .i64 0, .slice none 0 0] (sz1 w _ rfl)
  obtain ⟨hl, hq⟩ := hp.len
  have hpp := hp.p; have hm := hp.m; have hm2 := hp.m2
  unfold maxLen at hm hm2
  have hck := fun W (iv : Inv w W) => rcheck_any P A A2 n c n2 c2 l q W iv.1 ((hp.below iv.2).more iv.2.size)
  rw [h0] at hck
  clear h0
  go_enter Tryd.func55, Tryd.ntmps55
  go_wp2_with (refine wpList_row_g rfl 75 _ rfl _ rfl _ _ _ _ x1 Tryd.underlying75 rfl (by kernel_rfl) ?_)
  refine (hck _ i1).mono ?_; rintro e w2 ⟨rfl, hb2⟩
  have i2 := i1.call hb2
  have z2 := z1.below hb2 z1.lt
  clear i1 x1 z1 hb2
  go_wp2_with (refine wpList_store_g rfl 40 _ _ rfl rfl _ 0 (tbA 0 0 none 0 0) (tbA 0 0 none 0 0) rfl rfl _ _ z2 (by show 0 + 3 ≤ 3; decide) (by kernel_rfl) (by kernel_rfl) (by kernel_rfl) ?_)
  exact bodyPost_ret (res_ct rfl _ _ _ _ _ _ _ rfl rfl (Blk.row z2 _) Tryd.underlying40 rfl (by kernel_rfl)) rfl ⟨rfl, below_row i2.2 (Nat.le_add_right _ 1) _⟩
theorem inv_row {w W : World} {gz : Nat} (hT : Tab w) (h : Inv w W) (hz : w.heap.size ≤ gz) (cs : Array Value) : Inv w (W.setRow gz cs) := by
  have q := below_row h.2 hz cs
  exact ⟨hT.below hT.1 q, q⟩
set_option maxRecDepth 100000 in
set_option maxHeartbeats 12800000 in
attribute [-go_sem] run_eql_struct run_neq_struct run_slice_l run_slice_h run_slice_lh run_slice_any in
theorem rtable_main (P : Int) (A A2 : Option Addr) (n c n2 c2 : Nat) (l : List Rc) (q : List Int) (w : World) (hT : Tab w) (hp : PlanR w w.heap.size P A A2 n n2 l q) (hnc : n ≤ c) (h0 : plE P l q = 0) (hn100 : n ≤ 100) (a b : Nat) (hS : SqT l a b) :
    Calls Tryd.prog 55 #[plV P A A2 n c n2 c2] w fun r w' => ∃ (A' : Option Addr) (c' : Nat), r = .returned (.tuple #[tbV (P + (a : Int)) (P + (b : Int)) A' (b - a + 1) c', .int .i64 0]) ∧ Recs w' w'.heap.size A' (b - a + 1) (sub l a b) ∧ Below w.heap.size w w' := by
  have i0 := Inv.start hT
  have i1 := (i0.alloc (.cells #[.int .i64 P, .slice A n c, .slice A2 n2 c2] 75)).alloc (.cells #[.int .i64 0, .int .i64 0, .slice none 0 0] 40)
  have x1 := (Blk.new w 75 #[.int .i64 P, .slice A n c, .slice A2 n2 c2]).alloc (.cells #[.int .i64 0, .int .i64 0, .slice none 0 0] 40)
  have z1 := blk_at (w.alloc (.cells #[.int .i64 P, .slice A n c, .slice A2 n2 c2] 75)) 40 #[.int .i64 0, .int .i64 0, .slice none 0 0] (sz1 w _ rfl)
  obtain ⟨hl, hq⟩ := hp.len
  have hpp := hp.p; have hm := hp.m; have hm2 := hp.m2
  unfold maxLen at hm hm2
  have hck := fun W (iv : Inv w W) => rcheck_any P A A2 n c n2 c2 l q W iv.1 ((hp.below iv.2).more iv.2.size)
  rw [h0] at hck
  have hte := fun F L A3 n3 c3 t W (iv : Inv w W) hR hm3 => rtells_any F L A3 n3 c3 t P A A2 n c n2 c2 l q W iv.1 hR hm3 ((hp.below iv.2).more iv.2.size)
  have HNO := Lib.hid (fun i M h1 h2 h3 => win_no (P := P) (q := q) (i := i) (M := M) hS h1 h2 h3)
  have HYES := Lib.hid (win_yes h0 hS)
  obtain ⟨⟨k1, k2, k3, k4, k5⟩, -, -⟩ := pl_ok h0
  have s1 := hS.le; have s2 := hS.lt
  rw [hl] at s2 k2 k3 k5
  obtain ⟨ad, rfl, -, -⟩ := hp.r.2.1.2 (by omega)
  obtain ⟨i0i, hi0, hz0, hz1, hz2⟩ := info_parts rc_info
  obtain ⟨Z, hZ⟩ : ∃ Z, b - a + 1 = Z := ⟨_, rfl⟩
  rw [hZ] at HYES
  have hPb := Lib.hid (show P + (b : Int) = P + (a : Int) + (Z : Int) - 1 by omega)
  have hsub := Lib.hid (show sub l a b = win l a Z by rw [← hZ])
  rw [hZ]
  rw [hPb.out, hsub.out]
  have HNO2 := Lib.hid (fun i M (h1 : 1 ≤ M) (h2 : i + M ≤ n) (h3 : M < Z ∨ (M = Z ∧ i ≠ a ∧ i ≤ a)) => HNO.out i M h1 (by omega) (by omega))
  have haZ : a + Z ≤ n := by omega
  have hZ1 : 1 ≤ Z := by omega
  clear h0 HNO hsub hPb hS s1 s2 hZ k4
  clear b
  go_enter Tryd.func55, Tryd.ntmps55
  go_wp2_with (refine wpList_row_g rfl 75 _ rfl _ rfl _ _ _ _ x1 Tryd.underlying75 rfl (by kernel_rfl) ?_)
  refine (hck _ i1).mono ?_; rintro e w2 ⟨rfl, hb2⟩
  have i2 := i1.call hb2
  have x2 := x1.below hb2 x1.lt
  have z2 := z1.below hb2 z1.lt
  clear i1 x1 z1 hb2 hck
  have d1 : w2.cell? ⟨w.heap.size, 1, none⟩ = some (.slice (some ad) n c) := x2.cell 1
  go_wp2_with fail
  go_loopw [5] (fun v wr => ∃ M : Nat, v = .int .i64 M ∧ 1 ≤ M ∧ M ≤ Z ∧ Blk wr w.heap.size 75 #[.int .i64 P, .slice (some ad) n c, .slice A2 n2 c2] ∧ Blk wr (w.heap.size + 1) 40 #[.int .i64 0, .int .i64 0, .slice none 0 0] ∧ Inv w wr) (fun v _ => n + 1 - (intOf v).toNat)
  case atStart => exact ⟨1, rfl, Nat.le_refl _, hZ1, x2, z2, i2⟩
  case round =>
    clear x2 z2 i2 d1
    obtain ⟨M, rfl, hM1, hMZ, hx, hz, hi⟩ := hrel
    have hMn : (M : Int) ≤ (n : Int) := by omega
    go_wp2_with fail
    go_loopw [6] (fun v wr => ∃ i : Nat, v = .int .i64 i ∧ i ≤ n ∧ (M = Z → i ≤ a) ∧ Blk wr w.heap.size 75 #[.int .i64 P, .slice (some ad) n c, .slice A2 n2 c2] ∧ Blk wr (w.heap.size + 1) 40 #[.int .i64 0, .int .i64 0, .slice none 0 0] ∧ Inv w wr) (fun v _ => n + 1 - (intOf v).toNat)
    case atStart => exact ⟨0, rfl, Nat.zero_le _, fun _ => Nat.zero_le _, hx, hz, hi⟩
    case round =>
      clear hx hz hi
      obtain ⟨i, rfl, hin, hia, hx, hz, hi⟩ := hrel
      have HIA := Lib.hid hia; clear hia
      by_cases hiM : i + M ≤ n
      · have hle : (i : Int) + (M : Int) ≤ (n : Int) := by omega
        have hrun := run_win ad n c i M hM1 hiM hnc
        have r1 : IntKind.i64.wrap (P + (i : Int)) = P + (i : Int) := by simp [IntKind.wrap, IntKind.bits, IntKind.signed]; omega
        have r2 : IntKind.i64.wrap (P + (i : Int) + (M : Int)) = P + (i : Int) + (M : Int) := by simp [IntKind.wrap, IntKind.bits, IntKind.signed]; omega
        have r3 : IntKind.i64.wrap (P + (i : Int) + (M : Int) - 1) = P + (i : Int) + (M : Int) - 1 := by simp [IntKind.wrap, IntKind.bits, IntKind.signed]; omega
        have r4 : IntKind.i64.wrap ((i : Int) + (M : Int)) = (i : Int) + (M : Int) := by simp [IntKind.wrap, IntKind.bits, IntKind.signed]; omega
        go_upto_region 10 with fail
        obtain ⟨W0, rfl⟩ : ∃ W0 : World, W0 = wr := ⟨_, rfl⟩
        have x0 : Blk W0.drew w.heap.size 75 #[.int .i64 P, .slice (some ad) n c, .slice A2 n2 c2] := hx
        have z0 : Blk W0.drew (w.heap.size + 1) 40 #[.int .i64 0, .int .i64 0, .slice none 0 0] := hz
        have iv0 : Inv w W0.drew := hi.drew
        have hnex : ∀ {gg : Nat}, W0.drew.heap.size ≤ gg → w.heap.size ≠ gg := fun h => Nat.ne_of_lt (Nat.lt_of_lt_of_le x0.lt h)
        have hnez : ∀ {gg : Nat}, W0.drew.heap.size ≤ gg → w.heap.size + 1 ≠ gg := fun h => Nat.ne_of_lt (Nat.lt_of_lt_of_le z0.lt h)
        clear hx hz hi
        go_cut [7] (fun v wx => ∃ (gt g9 c9 : Nat), v = .pointer (some ⟨gt, 0, none⟩) ∧ g9 ≠ w.heap.size + 1 ∧ Blk wx w.heap.size 75 #[.int .i64 P, .slice (some ad) n c, .slice A2 n2 c2] ∧ Blk wx (w.heap.size + 1) 40 #[.int .i64 0, .int .i64 0, .slice none 0 0] ∧ Inv w wx ∧ Blk wx gt 40 #[.int .i64 (P + (i : Int)), .int .i64 (P + (i : Int) + (M : Int) - 1), .slice (some ⟨g9, 0, none⟩) M c9] ∧ Recs wx wx.heap.size (some ⟨g9, 0, none⟩) M (win l i M))
        case first =>
          refine wp_region_held_drew (S := fun w' => w'.cell? ⟨w.heap.size, 0, none⟩ = some (.int .i64 P) ∧ w'.cell? ⟨w.heap.size, 1, none⟩ = some (.slice (some ad) n c)) (by kernel_rfl) (⟨x0.cell 0, x0.cell 1⟩) (fun hHeld => ?_)
          refine wpAnyH_take (i := 0) (oi := { dst := some 27, op := Op.fieldAddr 75 (Operand.tmp 1) 0, type := 0, pos := "ref.go:32", after := #[], guard := none }) (v := ?_) rfl (by kernel_rfl) (by kernel_rfl) (by kernel_rfl) (fun _ _ _ h => h) (Or.inl ⟨by rfl, ?_⟩) hHeld ?_
          rotate_left
          · intro w hSw
            try dsimp only at hSw
            go_simp
            try with_reducible rfl
          try simp only [Act.put, List.setIfInBounds_toArray, List.set_cons_zero, List.set_cons_succ]
          refine wpAnyH_take (i := 1) (oi := { dst := some 28, op := Op.load 3 (Operand.tmp 27), type := 3, pos := "ref.go:32", after := #[{ on := 0, ground := Ground.data }], guard := none }) (v := ?_) rfl (by kernel_rfl) (by kernel_rfl) (by kernel_rfl) (fun _ _ _ h => h) (Or.inl ⟨by rfl, ?_⟩) hHeld ?_
          rotate_left
          · intro w hSw
            try dsimp only at hSw
            go_simp
            try with_reducible rfl
          try simp only [Act.put, List.setIfInBounds_toArray, List.set_cons_zero, List.set_cons_succ]
          refine wpAnyH_take (i := 2) (oi := { dst := some 29, op := Op.move (Operand.tmp 6), type := 3, pos := "ref.go:32", after := #[], guard := none }) (v := ?_) rfl (by kernel_rfl) (by kernel_rfl) (by kernel_rfl) (fun _ _ _ h => h) (Or.inl ⟨by rfl, ?_⟩) hHeld ?_
          rotate_left
          · intro w hSw
            try dsimp only at hSw
            go_simp
            try with_reducible rfl
          try simp only [Act.put, List.setIfInBounds_toArray, List.set_cons_zero, List.set_cons_succ]
          refine wpAnyH_take (i := 3) (oi := { dst := some 30, op := Op.binOp BinOp.add 3 (Operand.tmp 28) (Operand.tmp 29) 3, type := 3, pos := "ref.go:32", after := #[{ on := 1, ground := Ground.data }, { on := 2, ground := Ground.data }], guard := none }) (v := ?_) rfl (by kernel_rfl) (by kernel_rfl) (by kernel_rfl) (fun _ _ _ h => h) (Or.inl ⟨by rfl, ?_⟩) hHeld ?_
          rotate_left
          · intro w hSw
            try dsimp only at hSw
            go_simp
            try with_reducible rfl
          try simp only [Act.put, List.setIfInBounds_toArray, List.set_cons_zero, List.set_cons_succ]
          refine wpAnyH_take (i := 4) (oi := { dst := some 31, op := Op.fieldAddr 75 (Operand.tmp 1) 0, type := 0, pos := "ref.go:32", after := #[], guard := none }) (v := ?_) rfl (by kernel_rfl) (by kernel_rfl) (by kernel_rfl) (fun _ _ _ h => h) (Or.inl ⟨by rfl, ?_⟩) hHeld ?_
          rotate_left
          · intro w hSw
            try dsimp only at hSw
            go_simp
            try with_reducible rfl
          try simp only [Act.put, List.setIfInBounds_toArray, List.set_cons_zero, List.set_cons_succ]
          refine wpAnyH_take (i := 5) (oi := { dst := some 32, op := Op.load 3 (Operand.tmp 31), type := 3, pos := "ref.go:32", after := #[{ on := 4, ground := Ground.data }], guard := none }) (v := ?_) rfl (by kernel_rfl) (by kernel_rfl) (by kernel_rfl) (fun _ _ _ h => h) (Or.inl ⟨by rfl, ?_⟩) hHeld ?_
          rotate_left
          · intro w hSw
            try dsimp only at hSw
            go_simp
            try with_reducible rfl
          try simp only [Act.put, List.setIfInBounds_toArray, List.set_cons_zero, List.set_cons_succ]
          refine wpAnyH_take (i := 6) (oi := { dst := some 33, op := Op.move (Operand.tmp 6), type := 3, pos := "ref.go:32", after := #[], guard := none }) (v := ?_) rfl (by kernel_rfl) (by kernel_rfl) (by kernel_rfl) (fun _ _ _ h => h) (Or.inl ⟨by rfl, ?_⟩) hHeld ?_
          rotate_left
          · intro w hSw
            try dsimp only at hSw
            go_simp
            try with_reducible rfl
          try simp only [Act.put, List.setIfInBounds_toArray, List.set_cons_zero, List.set_cons_succ]
          refine wpAnyH_take (i := 7) (oi := { dst := some 34, op := Op.binOp BinOp.add 3 (Operand.tmp 32) (Operand.tmp 33) 3, type := 3, pos := "ref.go:32", after := #[{ on := 5, ground := Ground.data }, { on := 6, ground := Ground.data }], guard := none }) (v := ?_) rfl (by kernel_rfl) (by kernel_rfl) (by kernel_rfl) (fun _ _ _ h => h) (Or.inl ⟨by rfl, ?_⟩) hHeld ?_
          rotate_left
          · intro w hSw
            try dsimp only at hSw
            go_simp
            try with_reducible rfl
          try simp only [Act.put, List.setIfInBounds_toArray, List.set_cons_zero, List.set_cons_succ]
          refine wpAnyH_take (i := 8) (oi := { dst := some 35, op := Op.move (Operand.tmp 5), type := 3, pos := "ref.go:32", after := #[], guard := none }) (v := ?_) rfl (by kernel_rfl) (by kernel_rfl) (by kernel_rfl) (fun _ _ _ h => h) (Or.inl ⟨by rfl, ?_⟩) hHeld ?_
          rotate_left
          · intro w hSw
            try dsimp only at hSw
            go_simp
            try with_reducible rfl
          try simp only [Act.put, List.setIfInBounds_toArray, List.set_cons_zero, List.set_cons_succ]
          refine wpAnyH_take (i := 9) (oi := { dst := some 36, op := Op.binOp BinOp.add 3 (Operand.tmp 34) (Operand.tmp 35) 3, type := 3, pos := "ref.go:32", after := #[{ on := 7, ground := Ground.data }, { on := 8, ground := Ground.data }], guard := none }) (v := ?_) rfl (by kernel_rfl) (by kernel_rfl) (by kernel_rfl) (fun _ _ _ h => h) (Or.inl ⟨by rfl, ?_⟩) hHeld ?_
          rotate_left
          · intro w hSw
            try dsimp only at hSw
            go_simp
            try with_reducible rfl
          try simp only [Act.put, List.setIfInBounds_toArray, List.set_cons_zero, List.set_cons_succ]
          refine wpAnyH_take (i := 10) (oi := { dst := some 37, op := Op.binOp BinOp.sub 3 (Operand.tmp 36) (Operand.const (Value.int IntKind.i64 1)) 3, type := 3, pos := "ref.go:32", after := #[{ on := 9, ground := Ground.data }], guard := none }) (v := ?_) rfl (by kernel_rfl) (by kernel_rfl) (by kernel_rfl) (fun _ _ _ h => h) (Or.inl ⟨by rfl, ?_⟩) hHeld ?_
          rotate_left
          · intro w hSw
            try dsimp only at hSw
            go_simp
            try with_reducible rfl
          try simp only [Act.put, List.setIfInBounds_toArray, List.set_cons_zero, List.set_cons_succ]
          refine wpAnyH_take (i := 12) (oi := { dst := some 39, op := Op.fieldAddr 75 (Operand.tmp 1) 1, type := 0, pos := "ref.go:32", after := #[], guard := none }) (v := ?_) rfl (by kernel_rfl) (by kernel_rfl) (by kernel_rfl) (fun _ _ _ h => h) (Or.inl ⟨by rfl, ?_⟩) hHeld ?_
          rotate_left
          · intro w hSw
            try dsimp only at hSw
            go_simp
            try with_reducible rfl
          try simp only [Act.put, List.setIfInBounds_toArray, List.set_cons_zero, List.set_cons_succ]
          refine wpAnyH_take (i := 13) (oi := { dst := some 40, op := Op.load 38 (Operand.tmp 39), type := 38, pos := "ref.go:32", after := #[{ on := 12, ground := Ground.data }], guard := none }) (v := ?_) rfl (by kernel_rfl) (by kernel_rfl) (by kernel_rfl) (fun _ _ _ h => h) (Or.inl ⟨by rfl, ?_⟩) hHeld ?_
          rotate_left
          · intro w hSw
            try dsimp only at hSw
            go_simp
            try with_reducible rfl
          try simp only [Act.put, List.setIfInBounds_toArray, List.set_cons_zero, List.set_cons_succ]
          refine wpAnyH_take (i := 14) (oi := { dst := some 41, op := Op.move (Operand.tmp 6), type := 3, pos := "ref.go:32", after := #[], guard := none }) (v := ?_) rfl (by kernel_rfl) (by kernel_rfl) (by kernel_rfl) (fun _ _ _ h => h) (Or.inl ⟨by rfl, ?_⟩) hHeld ?_
          rotate_left
          · intro w hSw
            try dsimp only at hSw
            go_simp
            try with_reducible rfl
          try simp only [Act.put, List.setIfInBounds_toArray, List.set_cons_zero, List.set_cons_succ]
          refine wpAnyH_take (i := 15) (oi := { dst := some 42, op := Op.move (Operand.tmp 6), type := 3, pos := "ref.go:32", after := #[], guard := none }) (v := ?_) rfl (by kernel_rfl) (by kernel_rfl) (by kernel_rfl) (fun _ _ _ h => h) (Or.inl ⟨by rfl, ?_⟩) hHeld ?_
          rotate_left
          · intro w hSw
            try dsimp only at hSw
            go_simp
            try with_reducible rfl
          try simp only [Act.put, List.setIfInBounds_toArray, List.set_cons_zero, List.set_cons_succ]
          refine wpAnyH_take (i := 16) (oi := { dst := some 43, op := Op.move (Operand.tmp 5), type := 3, pos := "ref.go:32", after := #[], guard := none }) (v := ?_) rfl (by kernel_rfl) (by kernel_rfl) (by kernel_rfl) (fun _ _ _ h => h) (Or.inl ⟨by rfl, ?_⟩) hHeld ?_
          rotate_left
          · intro w hSw
            try dsimp only at hSw
            go_simp
            try with_reducible rfl
          try simp only [Act.put, List.setIfInBounds_toArray, List.set_cons_zero, List.set_cons_succ]
          refine wpAnyH_take (i := 17) (oi := { dst := some 44, op := Op.binOp BinOp.add 3 (Operand.tmp 42) (Operand.tmp 43) 3, type := 3, pos := "ref.go:32", after := #[{ on := 15, ground := Ground.data }, { on := 16, ground := Ground.data }], guard := none }) (v := ?_) rfl (by kernel_rfl) (by kernel_rfl) (by kernel_rfl) (fun _ _ _ h => h) (Or.inl ⟨by rfl, ?_⟩) hHeld ?_
          rotate_left
          · intro w hSw
            try dsimp only at hSw
            go_simp
            try with_reducible rfl
          try simp only [Act.put, List.setIfInBounds_toArray, List.set_cons_zero, List.set_cons_succ]
          refine wpAnyH_take (i := 18) (oi := { dst := some 45, op := Op.slice 38 (Operand.tmp 40) (some (Operand.tmp 41)) (some (Operand.tmp 44)) none, type := 38, pos := "ref.go:32", after := #[{ on := 13, ground := Ground.data }, { on := 14, ground := Ground.data }, { on := 17, ground := Ground.data }], guard := none }) (v := ?_) rfl (by kernel_rfl) (by kernel_rfl) (by kernel_rfl) (fun _ _ _ h => h) (Or.inl ⟨by rfl, ?_⟩) hHeld ?_
          rotate_left
          · intro w hSw
            try dsimp only at hSw
            go_simp
            try with_reducible rfl
          try simp only [Act.put, List.setIfInBounds_toArray, List.set_cons_zero, List.set_cons_succ]
          refine wpAnyH_ready (rs := [11, 21]) (by kernel_rfl) (by simp) ?_
          refine AllReadyH.cons (o := { dst := some 38, op := Op.buildSlice 38 0 #[], type := 38, pos := "ref.go:32", after := #[], guard := none }) rfl (fun K hK => ?_) (AllReadyH.cons (o := { dst := some 7, op := Op.alloc 40, type := 0, pos := "ref.go:32", after := #[], guard := none }) rfl (fun K hK => ?_) (AllReadyH.nil))
          · skip
            go_simp
            have own_1 := own_x (W0.drew) iv0.2.size
            have iv_1 := iv0.alloc (.cells (#[] : Array Value) 26)
            have x_1 := x0.alloc (.cells (#[] : Array Value) 26)
            have z_1 := z0.alloc (.cells (#[] : Array Value) 26)
            refine hK.out _ _ (⟨x_1.cell 0, x_1.cell 1⟩) (fun hHeld2 => ?_)
            clear hK K hHeld; have hHeld := hHeld2; clear hHeld2
            try simp only [Act.put, List.setIfInBounds_toArray, List.set_cons_zero, List.set_cons_succ]
            refine wpAnyH_ready (rs := [19, 21]) (by kernel_rfl) (by simp) ?_
            refine AllReadyH.cons (o := { dst := some 46, op := Op.call { callee := Callee.builtin Builtin.append, args := #[Operand.tmp 38, Operand.tmp 45], argTypes := #[38, 38] }, type := 38, pos := "ref.go:32", after := #[{ on := 11, ground := Ground.data }, { on := 18, ground := Ground.data }], guard := none }) rfl (fun K hK => ?_) (AllReadyH.cons (o := { dst := some 7, op := Op.alloc 40, type := 0, pos := "ref.go:32", after := #[], guard := none }) rfl (fun K hK => ?_) (AllReadyH.nil))
            · skip
              refine wp_append_any _ (.tmp 38) (.tmp 45) 38 rfl w.heap.size 26 i0i _ 19 44 Tryd.underlying38 hi0 hz0 hz1 hz2 rfl (by decide) _ 0 _ rfl own_1 _ _ M (c - i) (flat (win l i M)) rfl (win_recs (hp.r.below iv_1.2) hiM).2.1 (flat_one (win l i M)) (by unfold maxLen; omega) (by omega) (by have := iv_1.2.size; exact this) ?_
              intro v_2 W_2 own_2 hg_2 hat_2
              have iv_2 : Inv w W_2 := by have q := Below.grown iv_1.2 hg_2 iv_1.2.size (fun g hg => (own_lt9 own_1 g hg).1); exact ⟨hT.below hT.1 q, q⟩
              have x_2 := x_1.grown hg_2 (fun e => own_blk_ne own_1 x_1 (by decide) e.symm)
              have z_2 := z_1.grown hg_2 (fun e => own_blk_ne own_1 z_1 (by decide) e.symm)
              have szle_2 : W0.drew.heap.size ≤ W_2.heap.size := Nat.le_trans (show W0.drew.heap.size ≤ ((W0.drew).alloc (.cells (#[] : Array Value) 26)).heap.size by rw [sz1 W0.drew _ rfl]; omega) hg_2.size
              rw [Nat.zero_add, List.nil_append] at own_2
              obtain ⟨g9, c9, e9⟩ := own_formg own_2 (by omega)
              subst e9
              refine hK.out _ _ (⟨x_2.cell 0, x_2.cell 1⟩) (fun hHeld2 => ?_)
              clear hK K hHeld; have hHeld := hHeld2; clear hHeld2
              try simp only [Act.put, List.setIfInBounds_toArray, List.set_cons_zero, List.set_cons_succ]
              refine wpAnyH_take (i := 20) (oi := { dst := some 47, op := Op.build 40 #[(0, Operand.tmp 30), (1, Operand.tmp 37), (2, Operand.tmp 46)], type := 40, pos := "ref.go:32", after := #[{ on := 3, ground := Ground.data }, { on := 10, ground := Ground.data }, { on := 19, ground := Ground.data }], guard := none }) (v := ?_) rfl (by kernel_rfl) (by kernel_rfl) (by kernel_rfl) (fun _ _ _ h => h) (Or.inl ⟨by rfl, ?_⟩) hHeld ?_
              rotate_left
              · intro w hSw
                try dsimp only at hSw
                go_simp
                try with_reducible rfl
              try simp only [Act.put, List.setIfInBounds_toArray, List.set_cons_zero, List.set_cons_succ]
              refine wpAnyH_ready (rs := [21]) (by kernel_rfl) (by simp) ?_
              refine AllReadyH.cons (o := { dst := some 7, op := Op.alloc 40, type := 0, pos := "ref.go:32", after := #[], guard := none }) rfl (fun K hK => ?_) (AllReadyH.nil)
              go_simp
              have b_3 := Blk.new (W_2) 40 #[.int .i64 0, .int .i64 0, .slice none 0 0]
              have iv_3 := iv_2.alloc (.cells #[.int .i64 0, .int .i64 0, .slice none 0 0] 40)
              have x_3 := x_2.alloc (.cells #[.int .i64 0, .int .i64 0, .slice none 0 0] 40)
              have z_3 := z_2.alloc (.cells #[.int .i64 0, .int .i64 0, .slice none 0 0] 40)
              have own_3 := own_2.alloc (.cells #[.int .i64 0, .int .i64 0, .slice none 0 0] 40)
              refine hK.out _ _ (⟨x_3.cell 0, x_3.cell 1⟩) (fun hHeld2 => ?_)
              clear hK K hHeld; have hHeld := hHeld2; clear hHeld2
              try simp only [Act.put, List.setIfInBounds_toArray, List.set_cons_zero, List.set_cons_succ]
              refine wpAnyH_ready (rs := [22]) (by kernel_rfl) (by simp) ?_
              refine AllReadyH.cons (o := { dst := none, op := Op.store 40 (Operand.tmp 7) (Operand.tmp 47), type := 0, pos := "ref.go:32", after := #[{ on := 21, ground := Ground.data }, { on := 20, ground := Ground.data }, { on := 19, ground := Ground.chain }, { on := 0, ground := Ground.phase }, { on := 1, ground := Ground.phase }, { on := 2, ground := Ground.phase }, { on := 3, ground := Ground.phase }, { on := 4, ground := Ground.phase }, { on := 5, ground := Ground.phase }, { on := 6, ground := Ground.phase }, { on := 7, ground := Ground.phase }, { on := 8, ground := Ground.phase }, { on := 9, ground := Ground.phase }, { on := 10, ground := Ground.phase }, { on := 11, ground := Ground.phase }, { on := 12, ground := Ground.phase }, { on := 13, ground := Ground.phase }, { on := 14, ground := Ground.phase }, { on := 15, ground := Ground.phase }, { on := 16, ground := Ground.phase }, { on := 17, ground := Ground.phase }, { on := 18, ground := Ground.phase }, { on := 19, ground := Ground.phase }, { on := 20, ground := Ground.phase }, { on := 21, ground := Ground.phase }], guard := none }) rfl (fun K hK => ?_) (AllReadyH.nil)
              refine wp_store_g 40 (.tmp 7) (.tmp 47) rfl rfl _ 0 #[.int .i64 (P + (i : Int)), .int .i64 (P + (i : Int) + (M : Int) - 1), .slice (some ⟨g9, 0, none⟩) M c9] #[.int .i64 (P + (i : Int)), .int .i64 (P + (i : Int) + (M : Int) - 1), .slice (some ⟨g9, 0, none⟩) M c9] rfl rfl _ _ b_3 (by show 0 + 3 ≤ 3; decide) (by kernel_rfl) (by kernel_rfl) (by kernel_rfl) ?_
              have x_4 := Blk.rowFar x_3 (hnex (szle_2)) #[.int .i64 (P + (i : Int)), .int .i64 (P + (i : Int) + (M : Int) - 1), .slice (some ⟨g9, 0, none⟩) M c9]
              have z_4 := Blk.rowFar z_3 (hnez (szle_2)) #[.int .i64 (P + (i : Int)), .int .i64 (P + (i : Int) + (M : Int) - 1), .slice (some ⟨g9, 0, none⟩) M c9]
              have iv_4 := inv_row hT iv_3 (Nat.le_trans iv0.2.size (szle_2)) #[.int .i64 (P + (i : Int)), .int .i64 (P + (i : Int) + (M : Int) - 1), .slice (some ⟨g9, 0, none⟩) M c9]
              have own_4 := own_setRow own_3 _ #[.int .i64 (P + (i : Int)), .int .i64 (P + (i : Int) + (M : Int) - 1), .slice (some ⟨g9, 0, none⟩) M c9] (own_blk_ne own_3 b_3 (by decide))
              have b_4 := Blk.row b_3 #[.int .i64 (P + (i : Int)), .int .i64 (P + (i : Int) + (M : Int) - 1), .slice (some ⟨g9, 0, none⟩) M c9]
              refine hK.out _ _ (⟨x_4.cell 0, x_4.cell 1⟩) (fun hHeld2 => ?_)
              clear hK K hHeld; have hHeld := hHeld2; clear hHeld2
              try simp only [Act.put, List.setIfInBounds_toArray, List.set_cons_zero, List.set_cons_succ]
              refine wpAnyH_done (by kernel_rfl) ?_ _
              clear hHeld
              have hrd9 := Reads.of_own own_4
              have hn9 := own_blk_ne own_4 z_4 (by decide)
              go_wp2_with fail
              go_meet
              exact ⟨_, g9, c9, rfl, fun e => hn9 (by rw [e]; rfl), x_4, z_4, iv_4, b_4, ⟨win_len (by omega), hrd9, fun r hr => hp.r.2.2 r (List.mem_of_mem_drop (List.mem_of_mem_take hr))⟩⟩
            · skip
              go_simp
              have b_5 := blk_at ((W0.drew).alloc (.cells (#[] : Array Value) 26)) 40 #[.int .i64 0, .int .i64 0, .slice none 0 0] (sz1 W0.drew _ rfl)
              have iv_5 := iv_1.alloc (.cells #[.int .i64 0, .int .i64 0, .slice none 0 0] 40)
              have x_5 := x_1.alloc (.cells #[.int .i64 0, .int .i64 0, .slice none 0 0] 40)
              have z_5 := z_1.alloc (.cells #[.int .i64 0, .int .i64 0, .slice none 0 0] 40)
              have own_5 := own_1.alloc (.cells #[.int .i64 0, .int .i64 0, .slice none 0 0] 40)
              refine hK.out _ _ (⟨x_5.cell 0, x_5.cell 1⟩) (fun hHeld2 => ?_)
              clear hK K hHeld; have hHeld := hHeld2; clear hHeld2
              try simp only [Act.put, List.setIfInBounds_toArray, List.set_cons_zero, List.set_cons_succ]
              refine wpAnyH_ready (rs := [19]) (by kernel_rfl) (by simp) ?_
              refine AllReadyH.cons (o := { dst := some 46, op := Op.call { callee := Callee.builtin Builtin.append, args := #[Operand.tmp 38, Operand.tmp 45], argTypes := #[38, 38] }, type := 38, pos := "ref.go:32", after := #[{ on := 11, ground := Ground.data }, { on := 18, ground := Ground.data }], guard := none }) rfl (fun K hK => ?_) (AllReadyH.nil)
              refine wp_append_any _ (.tmp 38) (.tmp 45) 38 rfl w.heap.size 26 i0i _ 19 44 Tryd.underlying38 hi0 hz0 hz1 hz2 rfl (by decide) _ 0 _ rfl own_5 _ _ M (c - i) (flat (win l i M)) rfl (win_recs (hp.r.below iv_5.2) hiM).2.1 (flat_one (win l i M)) (by unfold maxLen; omega) (by omega) (by have := iv_5.2.size; exact this) ?_
              intro v_6 W_6 own_6 hg_6 hat_6
              have iv_6 : Inv w W_6 := by have q := Below.grown iv_5.2 hg_6 iv_5.2.size (fun g hg => (own_lt9 own_5 g hg).1); exact ⟨hT.below hT.1 q, q⟩
              have x_6 := x_5.grown hg_6 (fun e => own_blk_ne own_5 x_5 (by decide) e.symm)
              have z_6 := z_5.grown hg_6 (fun e => own_blk_ne own_5 z_5 (by decide) e.symm)
              have b_6 := b_5.grown hg_6 (fun e => own_blk_ne own_5 b_5 (by decide) e.symm)
              have szle_6 : W0.drew.heap.size ≤ W_6.heap.size := Nat.le_trans (show W0.drew.heap.size ≤ (((W0.drew).alloc (.cells (#[] : Array Value) 26)).alloc (.cells #[.int .i64 0, .int .i64 0, .slice none 0 0] 40)).heap.size by rw [sz1 _ _ (sz1 W0.drew _ rfl)]; omega) hg_6.size
              rw [Nat.zero_add, List.nil_append] at own_6
              obtain ⟨g9, c9, e9⟩ := own_formg own_6 (by omega)
              subst e9
              refine hK.out _ _ (⟨x_6.cell 0, x_6.cell 1⟩) (fun hHeld2 => ?_)
              clear hK K hHeld; have hHeld := hHeld2; clear hHeld2
              try simp only [Act.put, List.setIfInBounds_toArray, List.set_cons_zero, List.set_cons_succ]
              refine wpAnyH_take (i := 20) (oi := { dst := some 47, op := Op.build 40 #[(0, Operand.tmp 30), (1, Operand.tmp 37), (2, Operand.tmp 46)], type := 40, pos := "ref.go:32", after := #[{ on := 3, ground := Ground.data }, { on := 10, ground := Ground.data }, { on := 19, ground := Ground.data }], guard := none }) (v := ?_) rfl (by kernel_rfl) (by kernel_rfl) (by kernel_rfl) (fun _ _ _ h => h) (Or.inl ⟨by rfl, ?_⟩) hHeld ?_
              rotate_left
              · intro w hSw
                try dsimp only at hSw
                go_simp
                try with_reducible rfl
              try simp only [Act.put, List.setIfInBounds_toArray, List.set_cons_zero, List.set_cons_succ]
              refine wpAnyH_ready (rs := [22]) (by kernel_rfl) (by simp) ?_
              refine AllReadyH.cons (o := { dst := none, op := Op.store 40 (Operand.tmp 7) (Operand.tmp 47), type := 0, pos := "ref.go:32", after := #[{ on := 21, ground := Ground.data }, { on := 20, ground := Ground.data }, { on := 19, ground := Ground.chain }, { on := 0, ground := Ground.phase }, { on := 1, ground := Ground.phase }, { on := 2, ground := Ground.phase }, { on := 3, ground := Ground.phase }, { on := 4, ground := Ground.phase }, { on := 5, ground := Ground.phase }, { on := 6, ground := Ground.phase }, { on := 7, ground := Ground.phase }, { on := 8, ground := Ground.phase }, { on := 9, ground := Ground.phase }, { on := 10, ground := Ground.phase }, { on := 11, ground := Ground.phase }, { on := 12, ground := Ground.phase }, { on := 13, ground := Ground.phase }, { on := 14, ground := Ground.phase }, { on := 15, ground := Ground.phase }, { on := 16, ground := Ground.phase }, { on := 17, ground := Ground.phase }, { on := 18, ground := Ground.phase }, { on := 19, ground := Ground.phase }, { on := 20, ground := Ground.phase }, { on := 21, ground := Ground.phase }], guard := none }) rfl (fun K hK => ?_) (AllReadyH.nil)
              refine wp_store_g 40 (.tmp 7) (.tmp 47) rfl rfl _ 0 #[.int .i64 (P + (i : Int)), .int .i64 (P + (i : Int) + (M : Int) - 1), .slice (some ⟨g9, 0, none⟩) M c9] #[.int .i64 (P + (i : Int)), .int .i64 (P + (i : Int) + (M : Int) - 1), .slice (some ⟨g9, 0, none⟩) M c9] rfl rfl _ _ b_6 (by show 0 + 3 ≤ 3; decide) (by kernel_rfl) (by kernel_rfl) (by kernel_rfl) ?_
              have x_7 := Blk.rowFar x_6 (hnex (Nat.le_succ _)) #[.int .i64 (P + (i : Int)), .int .i64 (P + (i : Int) + (M : Int) - 1), .slice (some ⟨g9, 0, none⟩) M c9]
              have z_7 := Blk.rowFar z_6 (hnez (Nat.le_succ _)) #[.int .i64 (P + (i : Int)), .int .i64 (P + (i : Int) + (M : Int) - 1), .slice (some ⟨g9, 0, none⟩) M c9]
              have iv_7 := inv_row hT iv_6 (Nat.le_trans iv0.2.size (Nat.le_succ _)) #[.int .i64 (P + (i : Int)), .int .i64 (P + (i : Int) + (M : Int) - 1), .slice (some ⟨g9, 0, none⟩) M c9]
              have own_7 := own_setRow own_6 _ #[.int .i64 (P + (i : Int)), .int .i64 (P + (i : Int) + (M : Int) - 1), .slice (some ⟨g9, 0, none⟩) M c9] (own_blk_ne own_6 b_6 (by decide))
              have b_7 := Blk.row b_6 #[.int .i64 (P + (i : Int)), .int .i64 (P + (i : Int) + (M : Int) - 1), .slice (some ⟨g9, 0, none⟩) M c9]
              refine hK.out _ _ (⟨x_7.cell 0, x_7.cell 1⟩) (fun hHeld2 => ?_)
              clear hK K hHeld; have hHeld := hHeld2; clear hHeld2
              try simp only [Act.put, List.setIfInBounds_toArray, List.set_cons_zero, List.set_cons_succ]
              refine wpAnyH_done (by kernel_rfl) ?_ _
              clear hHeld
              have hrd9 := Reads.of_own own_7
              have hn9 := own_blk_ne own_7 z_7 (by decide)
              go_wp2_with fail
              go_meet
              exact ⟨_, g9, c9, rfl, fun e => hn9 (by rw [e]; rfl), x_7, z_7, iv_7, b_7, ⟨win_len (by omega), hrd9, fun r hr => hp.r.2.2 r (List.mem_of_mem_drop (List.mem_of_mem_take hr))⟩⟩
          · skip
            go_simp
            have b_8 := Blk.new (W0.drew) 40 #[.int .i64 0, .int .i64 0, .slice none 0 0]
            have iv_8 := iv0.alloc (.cells #[.int .i64 0, .int .i64 0, .slice none 0 0] 40)
            have x_8 := x0.alloc (.cells #[.int .i64 0, .int .i64 0, .slice none 0 0] 40)
            have z_8 := z0.alloc (.cells #[.int .i64 0, .int .i64 0, .slice none 0 0] 40)
            refine hK.out _ _ (⟨x_8.cell 0, x_8.cell 1⟩) (fun hHeld2 => ?_)
            clear hK K hHeld; have hHeld := hHeld2; clear hHeld2
            try simp only [Act.put, List.setIfInBounds_toArray, List.set_cons_zero, List.set_cons_succ]
            refine wpAnyH_ready (rs := [11]) (by kernel_rfl) (by simp) ?_
            refine AllReadyH.cons (o := { dst := some 38, op := Op.buildSlice 38 0 #[], type := 38, pos := "ref.go:32", after := #[], guard := none }) rfl (fun K hK => ?_) (AllReadyH.nil)
            go_simp
            have own_9 := own_x ((W0.drew).alloc (.cells #[.int .i64 0, .int .i64 0, .slice none 0 0] 40)) iv_8.2.size
            rw [sz1 W0.drew _ rfl] at own_9
            have iv_9 := iv_8.alloc (.cells (#[] : Array Value) 26)
            have x_9 := x_8.alloc (.cells (#[] : Array Value) 26)
            have z_9 := z_8.alloc (.cells (#[] : Array Value) 26)
            have b_9 := b_8.alloc (.cells (#[] : Array Value) 26)
            refine hK.out _ _ (⟨x_9.cell 0, x_9.cell 1⟩) (fun hHeld2 => ?_)
            clear hK K hHeld; have hHeld := hHeld2; clear hHeld2
            try simp only [Act.put, List.setIfInBounds_toArray, List.set_cons_zero, List.set_cons_succ]
            refine wpAnyH_ready (rs := [19]) (by kernel_rfl) (by simp) ?_
            refine AllReadyH.cons (o := { dst := some 46, op := Op.call { callee := Callee.builtin Builtin.append, args := #[Operand.tmp 38, Operand.tmp 45], argTypes := #[38, 38] }, type := 38, pos := "ref.go:32", after := #[{ on := 11, ground := Ground.data }, { on := 18, ground := Ground.data }], guard := none }) rfl (fun K hK => ?_) (AllReadyH.nil)
            refine wp_append_any _ (.tmp 38) (.tmp 45) 38 rfl w.heap.size 26 i0i _ 19 44 Tryd.underlying38 hi0 hz0 hz1 hz2 rfl (by decide) _ 0 _ rfl own_9 _ _ M (c - i) (flat (win l i M)) rfl (win_recs (hp.r.below iv_9.2) hiM).2.1 (flat_one (win l i M)) (by unfold maxLen; omega) (by omega) (by have := iv_9.2.size; exact this) ?_
            intro v_10 W_10 own_10 hg_10 hat_10
            have iv_10 : Inv w W_10 := by have q := Below.grown iv_9.2 hg_10 iv_9.2.size (fun g hg => (own_lt9 own_9 g hg).1); exact ⟨hT.below hT.1 q, q⟩
            have x_10 := x_9.grown hg_10 (fun e => own_blk_ne own_9 x_9 (by decide) e.symm)
            have z_10 := z_9.grown hg_10 (fun e => own_blk_ne own_9 z_9 (by decide) e.symm)
            have b_10 := b_9.grown hg_10 (fun e => own_blk_ne own_9 b_9 (by decide) e.symm)
            have szle_10 : W0.drew.heap.size ≤ W_10.heap.size := Nat.le_trans (show W0.drew.heap.size ≤ (((W0.drew).alloc (.cells #[.int .i64 0, .int .i64 0, .slice none 0 0] 40)).alloc (.cells (#[] : Array Value) 26)).heap.size by rw [sz1 _ _ (sz1 W0.drew _ rfl)]; omega) hg_10.size
            rw [Nat.zero_add, List.nil_append] at own_10
            obtain ⟨g9, c9, e9⟩ := own_formg own_10 (by omega)
            subst e9
            refine hK.out _ _ (⟨x_10.cell 0, x_10.cell 1⟩) (fun hHeld2 => ?_)
            clear hK K hHeld; have hHeld := hHeld2; clear hHeld2
            try simp only [Act.put, List.setIfInBounds_toArray, List.set_cons_zero, List.set_cons_succ]
            refine wpAnyH_take (i := 20) (oi := { dst := some 47, op := Op.build 40 #[(0, Operand.tmp 30), (1, Operand.tmp 37), (2, Operand.tmp 46)], type := 40, pos := "ref.go:32", after := #[{ on := 3, ground := Ground.data }, { on := 10, ground := Ground.data }, { on := 19, ground := Ground.data }], guard := none }) (v := ?_) rfl (by kernel_rfl) (by kernel_rfl) (by kernel_rfl) (fun _ _ _ h => h) (Or.inl ⟨by rfl, ?_⟩) hHeld ?_
            rotate_left
            · intro w hSw
              try dsimp only at hSw
              go_simp
              try with_reducible rfl
            try simp only [Act.put, List.setIfInBounds_toArray, List.set_cons_zero, List.set_cons_succ]
            refine wpAnyH_ready (rs := [22]) (by kernel_rfl) (by simp) ?_
            refine AllReadyH.cons (o := { dst := none, op := Op.store 40 (Operand.tmp 7) (Operand.tmp 47), type := 0, pos := "ref.go:32", after := #[{ on := 21, ground := Ground.data }, { on := 20, ground := Ground.data }, { on := 19, ground := Ground.chain }, { on := 0, ground := Ground.phase }, { on := 1, ground := Ground.phase }, { on := 2, ground := Ground.phase }, { on := 3, ground := Ground.phase }, { on := 4, ground := Ground.phase }, { on := 5, ground := Ground.phase }, { on := 6, ground := Ground.phase }, { on := 7, ground := Ground.phase }, { on := 8, ground := Ground.phase }, { on := 9, ground := Ground.phase }, { on := 10, ground := Ground.phase }, { on := 11, ground := Ground.phase }, { on := 12, ground := Ground.phase }, { on := 13, ground := Ground.phase }, { on := 14, ground := Ground.phase }, { on := 15, ground := Ground.phase }, { on := 16, ground := Ground.phase }, { on := 17, ground := Ground.phase }, { on := 18, ground := Ground.phase }, { on := 19, ground := Ground.phase }, { on := 20, ground := Ground.phase }, { on := 21, ground := Ground.phase }], guard := none }) rfl (fun K hK => ?_) (AllReadyH.nil)
            refine wp_store_g 40 (.tmp 7) (.tmp 47) rfl rfl _ 0 #[.int .i64 (P + (i : Int)), .int .i64 (P + (i : Int) + (M : Int) - 1), .slice (some ⟨g9, 0, none⟩) M c9] #[.int .i64 (P + (i : Int)), .int .i64 (P + (i : Int) + (M : Int) - 1), .slice (some ⟨g9, 0, none⟩) M c9] rfl rfl _ _ b_10 (by show 0 + 3 ≤ 3; decide) (by kernel_rfl) (by kernel_rfl) (by kernel_rfl) ?_
            have x_11 := Blk.rowFar x_10 (hnex (Nat.le_refl _)) #[.int .i64 (P + (i : Int)), .int .i64 (P + (i : Int) + (M : Int) - 1), .slice (some ⟨g9, 0, none⟩) M c9]
            have z_11 := Blk.rowFar z_10 (hnez (Nat.le_refl _)) #[.int .i64 (P + (i : Int)), .int .i64 (P + (i : Int) + (M : Int) - 1), .slice (some ⟨g9, 0, none⟩) M c9]
            have iv_11 := inv_row hT iv_10 (Nat.le_trans iv0.2.size (Nat.le_refl _)) #[.int .i64 (P + (i : Int)), .int .i64 (P + (i : Int) + (M : Int) - 1), .slice (some ⟨g9, 0, none⟩) M c9]
            have own_11 := own_setRow own_10 _ #[.int .i64 (P + (i : Int)), .int .i64 (P + (i : Int) + (M : Int) - 1), .slice (some ⟨g9, 0, none⟩) M c9] (own_blk_ne own_10 b_10 (by decide))
            have b_11 := Blk.row b_10 #[.int .i64 (P + (i : Int)), .int .i64 (P + (i : Int) + (M : Int) - 1), .slice (some ⟨g9, 0, none⟩) M c9]
            refine hK.out _ _ (⟨x_11.cell 0, x_11.cell 1⟩) (fun hHeld2 => ?_)
            clear hK K hHeld; have hHeld := hHeld2; clear hHeld2
            try simp only [Act.put, List.setIfInBounds_toArray, List.set_cons_zero, List.set_cons_succ]
            refine wpAnyH_done (by kernel_rfl) ?_ _
            clear hHeld
            have hrd9 := Reads.of_own own_11
            have hn9 := own_blk_ne own_11 z_11 (by decide)
            go_wp2_with fail
            go_meet
            exact ⟨_, g9, c9, rfl, fun e => hn9 (by rw [e]; rfl), x_11, z_11, iv_11, b_11, ⟨win_len (by omega), hrd9, fun r hr => hp.r.2.2 r (List.mem_of_mem_drop (List.mem_of_mem_take hr))⟩⟩
        case rest =>
        clear x0 z0 iv0 r1 r2 r3 r4 hrun hnex hnez
        obtain ⟨gt, g9, c9, rfl, hg9, x3, z3, i3, t3, R3⟩ := hcut
        obtain ⟨V, rfl⟩ : ∃ V : World, V = wc := ⟨_, rfl⟩
        have hte1 := hte (P + (i : Int)) (P + (i : Int) + (M : Int) - 1) (some ⟨g9, 0, none⟩) M c9 (win l i M) V i3 R3 (by unfold maxLen; omega)
        by_cases hy : M = Z ∧ i = a
        · obtain ⟨rfl, rfl⟩ := hy
          rw [HYES.out] at hte1
          go_wp2_with (first | refine wpList_row_g rfl 75 _ rfl _ rfl _ _ _ _ x3 Tryd.underlying75 rfl (by kernel_rfl) ?_ | refine wpList_row_g rfl 40 _ rfl _ rfl _ _ _ _ t3 Tryd.underlying40 rfl (by kernel_rfl) ?_)
          refine hte1.mono ?_; rintro e w4 ⟨rfl, hb4⟩
          have i4 := i3.call hb4
          have z4 := z3.below hb4 z3.lt
          have t4 := t3.below hb4 t3.lt
          have R4 := (R3.below hb4).more hb4.size
          clear x3 z3 t3 R3 i3 hb4
          have BB := below_row i4.2 (Nat.le_add_right w.heap.size 1) #[.int .i64 (P + (i : Int)), .int .i64 (P + (i : Int) + (M : Int) - 1), .slice (some ⟨g9, 0, none⟩) M c9]
          have R5 := (recs_far R4 hg9 #[.int .i64 (P + (i : Int)), .int .i64 (P + (i : Int) + (M : Int) - 1), .slice (some ⟨g9, 0, none⟩) M c9]).more (below_row (Below.refl 0 w4) (Nat.zero_le (w.heap.size + 1)) #[.int .i64 (P + (i : Int)), .int .i64 (P + (i : Int) + (M : Int) - 1), .slice (some ⟨g9, 0, none⟩) M c9]).size
          go_wp2_with (first | refine wpList_row_g rfl 40 _ rfl _ rfl _ _ _ _ t4 Tryd.underlying40 rfl (by kernel_rfl) ?_ | refine wpList_store_g rfl 40 _ _ rfl rfl _ 0 #[.int .i64 (P + (i : Int)), .int .i64 (P + (i : Int) + (M : Int) - 1), .slice (some ⟨g9, 0, none⟩) M c9] #[.int .i64 (P + (i : Int)), .int .i64 (P + (i : Int) + (M : Int) - 1), .slice (some ⟨g9, 0, none⟩) M c9] rfl rfl _ _ z4 (by show 0 + 3 ≤ 3; decide) (by kernel_rfl) (by kernel_rfl) (by kernel_rfl) ?_)
          exact bodyPost_ret (res_ct rfl _ _ _ _ _ _ _ rfl rfl (Blk.row z4 _) Tryd.underlying40 rfl (by kernel_rfl)) rfl ⟨_, c9, rfl, R5, BB⟩
        · have hno := HNO2.out i M hM1 hiM (by have := HIA.out; omega)
          rw [hno] at hte1
          have HIA2 := Lib.hid (show M = Z → i + 1 ≤ a by intro e; have := HIA.out e; omega)
          clear hno hy HIA
          go_wp2_with (first | refine wpList_row_g rfl 75 _ rfl _ rfl _ _ _ _ x3 Tryd.underlying75 rfl (by kernel_rfl) ?_ | refine wpList_row_g rfl 40 _ rfl _ rfl _ _ _ _ t3 Tryd.underlying40 rfl (by kernel_rfl) ?_)
          refine hte1.mono ?_; rintro e w4 ⟨rfl, hb4⟩
          have i4 := i3.call hb4
          have x4 := x3.below hb4 x3.lt
          have z4 := z3.below hb4 z3.lt
          clear x3 z3 t3 R3 i3 hb4
          go_wp2_with fail
          go_roundw
          case rel => exact ⟨i + 1, by go_num, by omega, HIA2.out, x4, z4, i4⟩
          case measure => simp [intOf]; omega
      · have hle : ¬ (i : Int) + (M : Int) ≤ (n : Int) := by omega
        have hMZ2 : M + 1 ≤ Z := by have := HIA.out; omega
        clear HIA
        go_wp2_with fail
        go_roundw
        case rel => exact ⟨M + 1, by go_num, by omega, hMZ2, hx, hz, hi⟩
        case measure => simp [intOf]; omega
end Go.Proofs.YtefcjccapekjdaaDoor.Sq
namespace Go.Proofs.YtefcjccapekjdaaDoor.Sq
open Go.ChangeShapes Go.WideShapes Go.ChangeAt Go.RowKit
open Go.Proofs.YtefcjccapekjdaaDoor
open Go.Proofs.YtefcjccapekjdaaDoor.Wd
open Go.Proofs.YtefcjccapekjdaaDoor.Rec
open Go.Proofs.YtefcjccapekjdaaDoor.Yr
open Go.Proofs.YtefcjccapekjdaaDoor.Clk (yrV yrE)
open Go.Proofs.YtefcjccapekjdaaDoor.Civ (Tab Inv)
set_option linter.unusedVariables false
open Go.Proofs.YtefcjccapekjdaaDoor.Tb
open Go.Proofs.YtefcjccapekjdaaDoor.Ld
set_option linter.unusedSimpArgs false
theorem ldTb_sem (v : Value) : Instr.loadAt 40 v = ldSem 40 v := rfl
theorem ldP_sem (v : Value) : Instr.loadAt 75 v = ldSem 75 v := rfl
attribute [local go_sem ↓] Go.wp_at_zero Go.wp_at_succ
attribute [local go_sem ↓] ldTb_sem ldP_sem
attribute [local go_sem] ldSem_run
theorem pre_ex {α : Type} (f : Nat → α) (n k : Nat) (hk : k < n) (h : ∀ j, j ≤ k → f j = f 0) : ∃ a, a < n ∧ (∀ j, j ≤ a → f j = f 0) ∧ (a + 1 = n ∨ f (a + 1) ≠ f 0) := by
  by_cases e : k + 1 = n
  · exact ⟨k, hk, h, .inl e⟩
  · by_cases g : f (k + 1) = f 0
    · exact pre_ex f n (k + 1) (by omega) (fun j hj => by
        by_cases e2 : j = k + 1
        · rw [e2]; exact g
        · exact h j (by omega))
    · exact ⟨k, hk, h, .inr g⟩
  termination_by n - k
theorem suf_ex {α : Type} (f : Nat → α) (n k : Nat) (hk : k < n) (h : ∀ j, k ≤ j → j < n → f j = f (n - 1)) : ∃ b, b < n ∧ (∀ j, b ≤ j → j < n → f j = f (n - 1)) ∧ (b = 0 ∨ f (b - 1) ≠ f (n - 1)) := by
  by_cases e : k = 0
  · exact ⟨k, hk, h, .inl e⟩
  · by_cases g : f (k - 1) = f (n - 1)
    · exact suf_ex f n (k - 1) (by omega) (fun j hj hn => by
        by_cases e2 : j = k - 1
        · rw [e2]; exact g
        · exact h j (by omega) hn)
    · exact ⟨k, hk, h, .inr g⟩
  termination_by k
theorem sqt_ex {l : List Rc} (h : 1 ≤ l.length) : ∃ a b, SqT l a b := by
  obtain ⟨a, a1, a2, a3⟩ := pre_ex (ra_ l) l.length 0 (by omega) (fun j hj => by rw [Nat.le_zero.1 hj])
  obtain ⟨b, b1, b2, b3⟩ := suf_ex (ra_ l) l.length (l.length - 1) (by omega) (fun j h1 h2 => by rw [show j = l.length - 1 by omega])
  by_cases e : a + 1 = l.length
  · refine ⟨0, 0, ⟨Nat.le_refl _, by omega, fun j hj => by rw [Nat.le_zero.1 hj], fun j _ hj => ?_, fun _ => rfl, fun h => absurd rfl h, fun h => absurd rfl h⟩⟩
    rw [a2 j (by omega), a2 (l.length - 1) (by omega)]
  · have a4 : ra_ l (a + 1) ≠ ra_ l 0 := a3.resolve_left e
    have hab : a < b := by
      rcases Nat.lt_or_ge a b with g | g
      · exact g
      · refine absurd ?_ a4
        rw [b2 (a + 1) (by omega) (by omega), ← b2 a g a1, a2 a (Nat.le_refl _)]
    refine ⟨a, b, ⟨by omega, b1, a2, b2, fun e => by omega, fun _ => a4, fun _ => b3.resolve_left (by omega)⟩⟩
set_option maxRecDepth 20000 in
theorem sm28_any (P : Int) (A A2 : Option Addr) (n c n2 c2 : Nat) (w : World) (hm : n ≤ maxLen) (hm2 : n2 ≤ maxLen) :
    Calls Tryd.prog 52 #[plV P A A2 n c n2 c2] w fun e w' => e = .returned (.int .i64 (if n ≤ 24 ∧ n2 ≤ 24 then 1 else 0)) ∧ Below w.heap.size w w' := by
  unfold maxLen at hm hm2
  have b1 := (Below.refl w.heap.size w).alloc (Nat.le_refl _) (.cells #[.int .i64 P, .slice A n c, .slice A2 n2 c2] 75)
  have x1 := Blk.new w 75 #[.int .i64 P, .slice A n c, .slice A2 n2 c2]
  have d1 := x1.cell 1; have d2 := x1.cell 2
  simp at d1 d2
  by_cases g1 : (24 : Int) < (n : Int)
  · rw [show (if n ≤ 24 ∧ n2 ≤ 24 then (1 : Int) else 0) = 0 by rw [if_neg (by omega)]]
    go_enter Tryd.func52, Tryd.ntmps52
    go_wp2_with fail
    go_ret
    exact ⟨rfl, b1⟩
  · by_cases g2 : (24 : Int) < (n2 : Int)
    · rw [show (if n ≤ 24 ∧ n2 ≤ 24 then (1 : Int) else 0) = 0 by rw [if_neg (by omega)]]
      go_enter Tryd.func52, Tryd.ntmps52
      go_wp2_with fail
      go_ret
      exact ⟨rfl, b1⟩
    · rw [show (if n ≤ 24 ∧ n2 ≤ 24 then (1 : Int) else 0) = 1 by rw [if_pos (by omega)]]
      go_enter Tryd.func52, Tryd.ntmps52
      go_wp2_with fail
      go_ret
      exact ⟨rfl, b1⟩
theorem sx_mk {w W : World} {up ut ua ub n c n2 c2 n3 c3 m1 c4 c5 : Nat} {P F L F1 L1 : Int} {A A2 A3 A4 A5 : Option Addr} {t1 : List Rc} (iv : Inv w W) (s1 : Recs W W.heap.size A4 m1 t1) (s2 : Recs W W.heap.size A5 m1 t1) (hp : Blk W up 75 #[.int .i64 P, .slice A n c, .slice A2 n2 c2]) (ht : Blk W ut 40 (tbA F L A3 n3 c3)) (ha : Blk W ua 40 (tbA F1 L1 A4 m1 c4)) (hb : Blk W ub 40 (tbA F1 L1 A5 m1 c5)) :
    Inv w W ∧ Recs W W.heap.size A4 m1 t1 ∧ Recs W W.heap.size A5 m1 t1 ∧ Blk W up 75 #[.int .i64 P, .slice A n c, .slice A2 n2 c2] ∧ Blk W ut 40 (tbA F L A3 n3 c3) ∧ Blk W ua 40 (tbA F1 L1 A4 m1 c4) ∧ Blk W ub 40 (tbA F1 L1 A5 m1 c5) ∧ ldT 75 (.pointer (some ⟨up, 0, none⟩)) W = some #[.int .i64 P, .slice A n c, .slice A2 n2 c2] ∧ ldT 40 (.pointer (some ⟨ut, 0, none⟩)) W = some (tbA F L A3 n3 c3) ∧ ldT 40 (.pointer (some ⟨ua, 0, none⟩)) W = some (tbA F1 L1 A4 m1 c4) ∧ ldT 40 (.pointer (some ⟨ub, 0, none⟩)) W = some (tbA F1 L1 A5 m1 c5) :=
  ⟨iv, s1, s2, hp, ht, ha, hb, ldT_of (ld_seg hp Tryd.underlying75 rfl (by kernel_rfl) (by kernel_rfl)), ldT_of (ld_seg ht Tryd.underlying40 rfl (by kernel_rfl) (by kernel_rfl)), ldT_of (ld_seg ha Tryd.underlying40 rfl (by kernel_rfl) (by kernel_rfl)), ldT_of (ld_seg hb Tryd.underlying40 rfl (by kernel_rfl) (by kernel_rfl))⟩
theorem sx_on {w W W2 : World} {up ut ua ub n c n2 c2 n3 c3 m1 c4 c5 : Nat} {P F L F1 L1 : Int} {A A2 A3 A4 A5 : Option Addr} {t1 : List Rc} (h : Inv w W ∧ Recs W W.heap.size A4 m1 t1 ∧ Recs W W.heap.size A5 m1 t1 ∧ Blk W up 75 #[.int .i64 P, .slice A n c, .slice A2 n2 c2] ∧ Blk W ut 40 (tbA F L A3 n3 c3) ∧ Blk W ua 40 (tbA F1 L1 A4 m1 c4) ∧ Blk W ub 40 (tbA F1 L1 A5 m1 c5) ∧ ldT 75 (.pointer (some ⟨up, 0, none⟩)) W = some #[.int .i64 P, .slice A n c, .slice A2 n2 c2] ∧ ldT 40 (.pointer (some ⟨ut, 0, none⟩)) W = some (tbA F L A3 n3 c3) ∧ ldT 40 (.pointer (some ⟨ua, 0, none⟩)) W = some (tbA F1 L1 A4 m1 c4) ∧ ldT 40 (.pointer (some ⟨ub, 0, none⟩)) W = some (tbA F1 L1 A5 m1 c5)) (hbx : Below W.heap.size W W2) :
    Inv w W2 ∧ Recs W2 W2.heap.size A4 m1 t1 ∧ Recs W2 W2.heap.size A5 m1 t1 ∧ Blk W2 up 75 #[.int .i64 P, .slice A n c, .slice A2 n2 c2] ∧ Blk W2 ut 40 (tbA F L A3 n3 c3) ∧ Blk W2 ua 40 (tbA F1 L1 A4 m1 c4) ∧ Blk W2 ub 40 (tbA F1 L1 A5 m1 c5) ∧ ldT 75 (.pointer (some ⟨up, 0, none⟩)) W2 = some #[.int .i64 P, .slice A n c, .slice A2 n2 c2] ∧ ldT 40 (.pointer (some ⟨ut, 0, none⟩)) W2 = some (tbA F L A3 n3 c3) ∧ ldT 40 (.pointer (some ⟨ua, 0, none⟩)) W2 = some (tbA F1 L1 A4 m1 c4) ∧ ldT 40 (.pointer (some ⟨ub, 0, none⟩)) W2 = some (tbA F1 L1 A5 m1 c5) := by
  obtain ⟨iv, s1, s2, hp, ht, ha, hb, _⟩ := h
  exact sx_mk (iv.call hbx) ((s1.below hbx).more hbx.size) ((s2.below hbx).more hbx.size) (hp.below hbx hp.lt) (ht.below hbx ht.lt) (ha.below hbx ha.lt) (hb.below hbx hb.lt)
set_option maxRecDepth 100000 in
set_option maxHeartbeats 12800000 in
attribute [-go_sem] run_eql_struct in
theorem stells_main (P F L F1 L1 E1 : Int) (E4 : Bool) (A A2 A3 : Option Addr) (n c n2 c2 n3 c3 m1 mk : Nat) (t1 : List Rc) (key : ByteArray) (ml : List (Int × Int)) (hm1' : m1 ≤ maxLen) (hmk : mk ≤ maxLen) (w : World) (hT : Tab w)
    (hz1 : ∀ W, Inv w W → Calls Tryd.prog 52 #[plV P A A2 n c n2 c2] W fun e w' => e = .returned (.int .i64 1) ∧ Below W.heap.size W w')
    (hz2 : ∀ W, Inv w W → Calls Tryd.prog 28 #[tbV F L A3 n3 c3] W fun e w' => e = .returned (.int .i64 1) ∧ Below W.heap.size W w')
    (hq1 : ∀ W, Inv w W → Calls Tryd.prog 54 #[plV P A A2 n c n2 c2] W fun e w' => (∃ A' c', e = .returned (.tuple #[tbV F1 L1 A' m1 c', .int .i64 E1]) ∧ Recs w' w'.heap.size A' m1 t1) ∧ Below W.heap.size W w')
    (hq2 : ∀ W, Inv w W → Calls Tryd.prog 55 #[plV P A A2 n c n2 c2] W fun e w' => (∃ A' c', e = .returned (.tuple #[tbV F1 L1 A' m1 c', .int .i64 E1]) ∧ Recs w' w'.heap.size A' m1 t1) ∧ Below W.heap.size W w')
    (ht1 : ∀ W, Inv w W → Calls Tryd.prog 56 #[tbV F L A3 n3 c3, plV P A A2 n c n2 c2] W fun e w' => e = .returned (.bool E4) ∧ Below W.heap.size W w')
    (ht2 : ∀ W, Inv w W → Calls Tryd.prog 57 #[tbV F L A3 n3 c3, plV P A A2 n c n2 c2] W fun e w' => e = .returned (.bool E4) ∧ Below W.heap.size W w')
    (hm1 : ∀ W, Inv w W → Calls Tryd.prog 59 #[.string key, plV P A A2 n c n2 c2] W fun e w' => (∃ A' c', e = .returned (.slice A' mk c') ∧ Mis w' w'.heap.size A' mk key ml) ∧ Below W.heap.size W w')
    (hm2 : ∀ W, Inv w W → Calls Tryd.prog 60 #[.string key, plV P A A2 n c n2 c2] W fun e w' => (∃ A' c', e = .returned (.slice A' mk c') ∧ Mis w' w'.heap.size A' mk key ml) ∧ Below W.heap.size W w')
    :
    Calls Tryd.prog 11 #[plV P A A2 n c n2 c2, tbV F L A3 n3 c3, .string key] w fun e w' => e = .returned (.bool true) ∧ Below w.heap.size w w' := by
  have i0 := Inv.start hT
  have hsm : ∀ W A4 A5 c4 c5, Recs W W.heap.size A4 m1 t1 → Recs W W.heap.size A5 m1 t1 → Calls Tryd.prog 49 #[tbV F1 L1 A4 m1 c4, tbV F1 L1 A5 m1 c5] W fun e w' => e = .returned (.bool true) ∧ Below W.heap.size W w' := fun W A4 A5 c4 c5 h1 h2 => by
    have := rtsame_any F1 L1 F1 L1 A4 A5 m1 m1 c4 c5 t1 t1 W h1 h2 hm1' hm1'
    rwa [show sameB F1 L1 t1 F1 L1 t1 = true by unfold sameB; rw [eqLs_self]; simp] at this
  have hss : ∀ W A4 A5 c4 c5, Mis W W.heap.size A4 mk key ml → Mis W W.heap.size A5 mk key ml → Calls Tryd.prog 58 #[.slice A4 mk c4, .slice A5 mk c5] W fun e w' => e = .returned (.bool true) ∧ Below W.heap.size W w' := fun W A4 A5 c4 c5 h1 h2 => by
    have := msame_any A4 A5 mk mk c4 c5 key ml ml W h1 h2 hmk hmk
    rwa [eqMs_self] at this
  have eE1 : (E1 == E1) = true := by simp
  have eE4 : (E4 == E4) = true := by simp
  go_enter Tryd.func11, Tryd.ntmps11
  go_wp2_with (first | refine wpList_row_g rfl 75 _ rfl _ rfl _ _ _ _ ((Wd.Blk.new w 75 #[.int .i64 P, .slice A n c, .slice A2 n2 c2]).alloc (.cells (tbA F L A3 n3 c3) 40)) Tryd.underlying75 rfl (by kernel_rfl) ?_)
  have p_1 := ((Wd.Blk.new w 75 #[.int .i64 P, .slice A n c, .slice A2 n2 c2]).alloc (.cells (tbA F L A3 n3 c3) 40))
  have t_1 := (blk_at (w.alloc (.cells #[.int .i64 P, .slice A n c, .slice A2 n2 c2] 75)) 40 (tbA F L A3 n3 c3) (sz1 _ _ rfl))
  have inv_1 := ((i0.alloc (.cells #[.int .i64 P, .slice A n c, .slice A2 n2 c2] 75)).alloc (.cells (tbA F L A3 n3 c3) 40))
  refine (hz1 _ inv_1).mono ?_; rintro e w_1 ⟨rfl, hb_1⟩
  have pc_1 := p_1.below hb_1 p_1.lt
  have tc_1 := t_1.below hb_1 t_1.lt
  have invc_1 := inv_1.call hb_1
  clear p_1 t_1 inv_1 hb_1
  go_wp2_with (first | refine wpList_row_g rfl 40 _ rfl _ rfl _ _ _ _ tc_1 Tryd.underlying40 rfl (by kernel_rfl) ?_)
  have p_2 := pc_1
  have t_2 := tc_1
  have inv_2 := invc_1
  refine (hz2 _ inv_2).mono ?_; rintro e w_2 ⟨rfl, hb_2⟩
  have pc_2 := p_2.below hb_2 p_2.lt
  have tc_2 := t_2.below hb_2 t_2.lt
  have invc_2 := inv_2.call hb_2
  clear p_2 t_2 inv_2 hb_2
  go_wp2_with (first | refine wpList_row_g rfl 75 _ rfl _ rfl _ _ _ _ pc_2 Tryd.underlying75 rfl (by kernel_rfl) ?_)
  have p_3 := pc_2
  have t_3 := tc_2
  have inv_3 := invc_2
  refine (hq1 _ inv_3).mono ?_; rintro e w_3 ⟨⟨A4, c4, rfl, R4⟩, hb_3⟩
  have pc_3 := p_3.below hb_3 p_3.lt; clear p_3
  have tc_3 := t_3.below hb_3 t_3.lt; clear t_3
  have invc_3 := inv_3.call hb_3; clear inv_3
  clear hb_3
  have p_4 := (pc_3.alloc (.cells (tbA F1 L1 A4 m1 c4) 40))
  have t_4 := (tc_3.alloc (.cells (tbA F1 L1 A4 m1 c4) 40))
  have a_4 := (Wd.Blk.new w_3 40 (tbA F1 L1 A4 m1 c4))
  have inv_4 := (invc_3.alloc (.cells (tbA F1 L1 A4 m1 c4) 40))
  have R4a := recs_al R4 (.cells (tbA F1 L1 A4 m1 c4) 40); clear R4
  go_wp2_with (first | refine wpList_store_new rfl 40 _ _ rfl rfl w_3.heap.size (tbA F1 L1 A4 m1 c4) rfl rfl _ #[.int .i64 0, .int .i64 0, .slice none 0 0] w_3 rfl rfl rfl (by kernel_rfl) (by kernel_rfl) ?_ | refine wpList_row_g rfl 75 _ rfl _ rfl _ _ _ _ p_4 Tryd.underlying75 rfl (by kernel_rfl) ?_)
  have p_5 := p_4
  have t_5 := t_4
  have a_5 := a_4
  have inv_5 := inv_4
  refine (hq2 _ inv_5).mono ?_; rintro e w_5 ⟨⟨A5, c5, rfl, R5⟩, hb_5⟩
  have R4ac := recs_ca R4a hb_5; clear R4a
  have pc_5 := p_5.below hb_5 p_5.lt; clear p_5
  have tc_5 := t_5.below hb_5 t_5.lt; clear t_5
  have ac_5 := a_5.below hb_5 a_5.lt; clear a_5
  have invc_5 := inv_5.call hb_5; clear inv_5
  clear hb_5
  have p_6 := (pc_5.alloc (.cells (tbA F1 L1 A5 m1 c5) 40))
  have t_6 := (tc_5.alloc (.cells (tbA F1 L1 A5 m1 c5) 40))
  have a_6 := (ac_5.alloc (.cells (tbA F1 L1 A5 m1 c5) 40))
  have b_6 := (Wd.Blk.new w_5 40 (tbA F1 L1 A5 m1 c5))
  have inv_6 := (invc_5.alloc (.cells (tbA F1 L1 A5 m1 c5) 40))
  have R4b := recs_al R4ac (.cells (tbA F1 L1 A5 m1 c5) 40); have R5b := recs_al R5 (.cells (tbA F1 L1 A5 m1 c5) 40); clear R4ac R5
  go_upto_region 5 with (first | refine wpList_store_new rfl 40 _ _ rfl rfl w_5.heap.size (tbA F1 L1 A5 m1 c5) rfl rfl _ #[.int .i64 0, .int .i64 0, .slice none 0 0] w_5 rfl rfl rfl (by kernel_rfl) (by kernel_rfl) ?_ | refine wpList_row_g rfl 75 _ rfl _ rfl _ _ _ _ p_6 Tryd.underlying75 rfl (by kernel_rfl) ?_)
  have ZZ := Lib.hid (sx_mk inv_6.drew (show Recs (w_5.alloc (.cells (tbA F1 L1 A5 m1 c5) 40)).drew _ _ _ _ from R4b) (show Recs (w_5.alloc (.cells (tbA F1 L1 A5 m1 c5) 40)).drew _ _ _ _ from R5b) p_6 t_6 a_6 b_6)
  clear inv_6 R4b R5b p_6 t_6 a_6 b_6 hz1 hz2 hq1 hq2 i0
  generalize (w_5.alloc (.cells (tbA F1 L1 A5 m1 c5) 40)) = W at *
  generalize hgub : w_5.heap.size = ub at *
  generalize hgua : w_3.heap.size = ua at *
  generalize hgut : w.heap.size + 1 = ut at *
  generalize hgup : w.heap.size = up at *
  clear hgub hgua hgut hgup
  refine wp_region_held_drew (S := fun w' => Inv w w' ∧ Recs w' w'.heap.size A4 m1 t1 ∧ Recs w' w'.heap.size A5 m1 t1 ∧ Blk w' up 75 #[.int .i64 P, .slice A n c, .slice A2 n2 c2] ∧ Blk w' ut 40 (tbA F L A3 n3 c3) ∧ Blk w' ua 40 (tbA F1 L1 A4 m1 c4) ∧ Blk w' ub 40 (tbA F1 L1 A5 m1 c5) ∧ ldT 75 (.pointer (some ⟨up, 0, none⟩)) w' = some #[.int .i64 P, .slice A n c, .slice A2 n2 c2] ∧ ldT 40 (.pointer (some ⟨ut, 0, none⟩)) w' = some (tbA F L A3 n3 c3) ∧ ldT 40 (.pointer (some ⟨ua, 0, none⟩)) w' = some (tbA F1 L1 A4 m1 c4) ∧ ldT 40 (.pointer (some ⟨ub, 0, none⟩)) w' = some (tbA F1 L1 A5 m1 c5)) (by kernel_rfl) (ZZ.out) (fun hHeld => ?_)
  refine wpAnyH_ready (rs := [0]) (by kernel_rfl) (by simp) ?_
  refine AllReadyH.cons (o := { dst := some 30, op := Op.call { callee := Callee.value (Operand.func 53), args := #[], argTypes := #[] }, type := 4, pos := "law.go:41", after := #[], guard := none }) rfl (fun K hK => ?_) (AllReadyH.nil)
  go_simp
  refine (lives28_any _ hHeld.1.1).mono ?_; rintro e w_51 ⟨rfl, hb_51⟩
  try go_wp2_with fail
  refine hK.out _ _ (sx_on hHeld hb_51) (fun hHeld2 => ?_)
  clear hK K hHeld; have hHeld := hHeld2; clear hHeld2
  try simp only [Act.put, List.setIfInBounds_toArray, List.set_cons_zero, List.set_cons_succ]
  refine wpAnyH_take (i := 1) (oi := { dst := some 31, op := Op.move (Operand.tmp 30), type := 4, pos := "law.go:41", after := #[{ on := 0, ground := Ground.data }, { on := 0, ground := Ground.chain }], guard := none }) (v := ?_) rfl (by kernel_rfl) (by kernel_rfl) (by kernel_rfl) (fun _ _ _ h => h) (Or.inl ⟨by rfl, ?_⟩) hHeld ?_
  rotate_left
  · intro w hSw
    try dsimp only at hSw
    go_simp
    try with_reducible rfl
  try simp only [Act.put, List.setIfInBounds_toArray, List.set_cons_zero, List.set_cons_succ]
  refine wpAnyH_take (i := 2) (oi := { dst := some 32, op := Op.load 40 (Operand.tmp 7), type := 40, pos := "law.go:41", after := #[{ on := 1, ground := Ground.guard }], guard := some (1, true) }) (v := ?_) rfl (by kernel_rfl) (by kernel_rfl) (by kernel_rfl) (fun _ _ _ h => h) (Or.inl ⟨by rfl, ?_⟩) hHeld ?_
  rotate_left
  · intro w hSw
    try dsimp only at hSw
    go_simp
    try with_reducible rfl
  try simp only [Act.put, List.setIfInBounds_toArray, List.set_cons_zero, List.set_cons_succ]
  refine wpAnyH_take (i := 3) (oi := { dst := some 33, op := Op.load 40 (Operand.tmp 9), type := 40, pos := "law.go:41", after := #[{ on := 1, ground := Ground.guard }], guard := some (1, true) }) (v := ?_) rfl (by kernel_rfl) (by kernel_rfl) (by kernel_rfl) (fun _ _ _ h => h) (Or.inl ⟨by rfl, ?_⟩) hHeld ?_
  rotate_left
  · intro w hSw
    try dsimp only at hSw
    go_simp
    try with_reducible rfl
  try simp only [Act.put, List.setIfInBounds_toArray, List.set_cons_zero, List.set_cons_succ]
  refine wpAnyH_ready (rs := [4]) (by kernel_rfl) (by simp) ?_
  refine AllReadyH.cons (o := { dst := some 34, op := Op.call { callee := Callee.value (Operand.func 49), args := #[Operand.tmp 32, Operand.tmp 33], argTypes := #[40, 40] }, type := 4, pos := "law.go:41", after := #[{ on := 2, ground := Ground.data }, { on := 3, ground := Ground.data }, { on := 1, ground := Ground.chain }, { on := 1, ground := Ground.guard }], guard := some (1, true) }) rfl (fun K hK => ?_) (AllReadyH.nil)
  go_simp
  refine (hsm _ _ _ _ _ hHeld.2.1 hHeld.2.2.1).mono ?_; rintro e w_52 ⟨rfl, hb_52⟩
  try go_wp2_with fail
  refine hK.out _ _ (sx_on hHeld hb_52) (fun hHeld2 => ?_)
  clear hK K hHeld; have hHeld := hHeld2; clear hHeld2
  try simp only [Act.put, List.setIfInBounds_toArray, List.set_cons_zero, List.set_cons_succ]
  refine wpAnyH_take (i := 5) (oi := { dst := some 35, op := Op.pick (Operand.tmp 31) (Operand.tmp 34) (Operand.const (Value.bool false)), type := 4, pos := "law.go:41", after := #[{ on := 1, ground := Ground.data }, { on := 4, ground := Ground.data }], guard := none }) (v := ?_) rfl (by kernel_rfl) (by kernel_rfl) (by kernel_rfl) (fun _ _ _ h => h) (Or.inl ⟨by rfl, ?_⟩) hHeld ?_
  rotate_left
  · intro w hSw
    try dsimp only at hSw
    go_simp
    try with_reducible rfl
  try simp only [Act.put, List.setIfInBounds_toArray, List.set_cons_zero, List.set_cons_succ]
  refine wpAnyH_take (i := 6) (oi := { dst := some 36, op := Op.move (Operand.tmp 35), type := 4, pos := "law.go:41", after := #[{ on := 5, ground := Ground.data }, { on := 4, ground := Ground.chain }], guard := none }) (v := ?_) rfl (by kernel_rfl) (by kernel_rfl) (by kernel_rfl) (fun _ _ _ h => h) (Or.inl ⟨by rfl, ?_⟩) hHeld ?_
  rotate_left
  · intro w hSw
    try dsimp only at hSw
    go_simp
    try with_reducible rfl
  try simp only [Act.put, List.setIfInBounds_toArray, List.set_cons_zero, List.set_cons_succ]
  refine wpAnyH_take (i := 7) (oi := { dst := some 37, op := Op.move (Operand.tmp 8), type := 30, pos := "law.go:41", after := #[{ on := 6, ground := Ground.guard }], guard := some (6, true) }) (v := ?_) rfl (by kernel_rfl) (by kernel_rfl) (by kernel_rfl) (fun _ _ _ h => h) (Or.inl ⟨by rfl, ?_⟩) hHeld ?_
  rotate_left
  · intro w hSw
    try dsimp only at hSw
    go_simp
    try with_reducible rfl
  try simp only [Act.put, List.setIfInBounds_toArray, List.set_cons_zero, List.set_cons_succ]
  refine wpAnyH_take (i := 8) (oi := { dst := some 38, op := Op.move (Operand.tmp 10), type := 30, pos := "law.go:41", after := #[{ on := 6, ground := Ground.guard }], guard := some (6, true) }) (v := ?_) rfl (by kernel_rfl) (by kernel_rfl) (by kernel_rfl) (fun _ _ _ h => h) (Or.inl ⟨by rfl, ?_⟩) hHeld ?_
  rotate_left
  · intro w hSw
    try dsimp only at hSw
    go_simp
    try with_reducible rfl
  try simp only [Act.put, List.setIfInBounds_toArray, List.set_cons_zero, List.set_cons_succ]
  refine wpAnyH_take (i := 9) (oi := { dst := some 39, op := Op.binOp BinOp.eql 30 (Operand.tmp 37) (Operand.tmp 38) 30, type := 4, pos := "law.go:41", after := #[{ on := 7, ground := Ground.data }, { on := 8, ground := Ground.data }, { on := 6, ground := Ground.guard }], guard := some (6, true) }) (v := ?_) rfl (by kernel_rfl) (by kernel_rfl) (by kernel_rfl) (fun _ _ _ h => h) (Or.inl ⟨by rfl, ?_⟩) hHeld ?_
  rotate_left
  · intro w hSw
    try dsimp only at hSw
    go_simp
    try with_reducible rfl
  try simp only [Act.put, List.setIfInBounds_toArray, List.set_cons_zero, List.set_cons_succ]
  refine wpAnyH_take (i := 10) (oi := { dst := some 40, op := Op.pick (Operand.tmp 36) (Operand.tmp 39) (Operand.const (Value.bool false)), type := 4, pos := "law.go:41", after := #[{ on := 6, ground := Ground.data }, { on := 9, ground := Ground.data }], guard := none }) (v := ?_) rfl (by kernel_rfl) (by kernel_rfl) (by kernel_rfl) (fun _ _ _ h => h) (Or.inl ⟨by rfl, ?_⟩) hHeld ?_
  rotate_left
  · intro w hSw
    try dsimp only at hSw
    go_simp
    try with_reducible rfl
  try simp only [Act.put, List.setIfInBounds_toArray, List.set_cons_zero, List.set_cons_succ]
  refine wpAnyH_take (i := 11) (oi := { dst := some 41, op := Op.move (Operand.tmp 40), type := 4, pos := "law.go:41", after := #[{ on := 10, ground := Ground.data }, { on := 6, ground := Ground.chain }], guard := none }) (v := ?_) rfl (by kernel_rfl) (by kernel_rfl) (by kernel_rfl) (fun _ _ _ h => h) (Or.inl ⟨by rfl, ?_⟩) hHeld ?_
  rotate_left
  · intro w hSw
    try dsimp only at hSw
    go_simp
    try with_reducible rfl
  try simp only [Act.put, List.setIfInBounds_toArray, List.set_cons_zero, List.set_cons_succ]
  refine wpAnyH_take (i := 12) (oi := { dst := some 42, op := Op.load 40 (Operand.tmp 4), type := 40, pos := "law.go:41", after := #[{ on := 11, ground := Ground.guard }], guard := some (11, true) }) (v := ?_) rfl (by kernel_rfl) (by kernel_rfl) (by kernel_rfl) (fun _ _ _ h => h) (Or.inl ⟨by rfl, ?_⟩) hHeld ?_
  rotate_left
  · intro w hSw
    try dsimp only at hSw
    go_simp
    try with_reducible rfl
  try simp only [Act.put, List.setIfInBounds_toArray, List.set_cons_zero, List.set_cons_succ]
  refine wpAnyH_take (i := 13) (oi := { dst := some 43, op := Op.load 75 (Operand.tmp 3), type := 75, pos := "law.go:41", after := #[{ on := 11, ground := Ground.guard }], guard := some (11, true) }) (v := ?_) rfl (by kernel_rfl) (by kernel_rfl) (by kernel_rfl) (fun _ _ _ h => h) (Or.inl ⟨by rfl, ?_⟩) hHeld ?_
  rotate_left
  · intro w hSw
    try dsimp only at hSw
    go_simp
    try with_reducible rfl
  try simp only [Act.put, List.setIfInBounds_toArray, List.set_cons_zero, List.set_cons_succ]
  refine wpAnyH_take (i := 15) (oi := { dst := some 45, op := Op.load 40 (Operand.tmp 4), type := 40, pos := "law.go:41", after := #[{ on := 11, ground := Ground.guard }], guard := some (11, true) }) (v := ?_) rfl (by kernel_rfl) (by kernel_rfl) (by kernel_rfl) (fun _ _ _ h => h) (Or.inl ⟨by rfl, ?_⟩) hHeld ?_
  rotate_left
  · intro w hSw
    try dsimp only at hSw
    go_simp
    try with_reducible rfl
  try simp only [Act.put, List.setIfInBounds_toArray, List.set_cons_zero, List.set_cons_succ]
  refine wpAnyH_take (i := 16) (oi := { dst := some 46, op := Op.load 75 (Operand.tmp 3), type := 75, pos := "law.go:41", after := #[{ on := 11, ground := Ground.guard }], guard := some (11, true) }) (v := ?_) rfl (by kernel_rfl) (by kernel_rfl) (by kernel_rfl) (fun _ _ _ h => h) (Or.inl ⟨by rfl, ?_⟩) hHeld ?_
  rotate_left
  · intro w hSw
    try dsimp only at hSw
    go_simp
    try with_reducible rfl
  try simp only [Act.put, List.setIfInBounds_toArray, List.set_cons_zero, List.set_cons_succ]
  refine wpAnyH_ready (rs := [14]) (by kernel_rfl) (by simp) ?_
  refine AllReadyH.cons (o := { dst := some 44, op := Op.call { callee := Callee.value (Operand.func 56), args := #[Operand.tmp 42, Operand.tmp 43], argTypes := #[40, 75] }, type := 4, pos := "law.go:41", after := #[{ on := 12, ground := Ground.data }, { on := 13, ground := Ground.data }, { on := 11, ground := Ground.chain }, { on := 11, ground := Ground.guard }], guard := some (11, true) }) rfl (fun K hK => ?_) (AllReadyH.nil)
  go_simp
  refine (ht1 _ hHeld.1).mono ?_; rintro e w_53 ⟨rfl, hb_53⟩
  try go_wp2_with fail
  refine hK.out _ _ (sx_on hHeld hb_53) (fun hHeld2 => ?_)
  clear hK K hHeld; have hHeld := hHeld2; clear hHeld2
  try simp only [Act.put, List.setIfInBounds_toArray, List.set_cons_zero, List.set_cons_succ]
  refine wpAnyH_ready (rs := [17]) (by kernel_rfl) (by simp) ?_
  refine AllReadyH.cons (o := { dst := some 47, op := Op.call { callee := Callee.value (Operand.func 57), args := #[Operand.tmp 45, Operand.tmp 46], argTypes := #[40, 75] }, type := 4, pos := "law.go:41", after := #[{ on := 15, ground := Ground.data }, { on := 16, ground := Ground.data }, { on := 14, ground := Ground.chain }, { on := 11, ground := Ground.guard }], guard := some (11, true) }) rfl (fun K hK => ?_) (AllReadyH.nil)
  go_simp
  refine (ht2 _ hHeld.1).mono ?_; rintro e w_54 ⟨rfl, hb_54⟩
  try go_wp2_with fail
  refine hK.out _ _ (sx_on hHeld hb_54) (fun hHeld2 => ?_)
  clear hK K hHeld; have hHeld := hHeld2; clear hHeld2
  try simp only [Act.put, List.setIfInBounds_toArray, List.set_cons_zero, List.set_cons_succ]
  refine wpAnyH_take (i := 18) (oi := { dst := some 48, op := Op.binOp BinOp.eql 4 (Operand.tmp 44) (Operand.tmp 47) 4, type := 4, pos := "law.go:41", after := #[{ on := 14, ground := Ground.data }, { on := 17, ground := Ground.data }, { on := 11, ground := Ground.guard }], guard := some (11, true) }) (v := ?_) rfl (by kernel_rfl) (by kernel_rfl) (by kernel_rfl) (fun _ _ _ h => h) (Or.inl ⟨by rfl, ?_⟩) hHeld ?_
  rotate_left
  · intro w hSw
    try dsimp only at hSw
    go_simp
    try with_reducible rfl
  try simp only [Act.put, List.setIfInBounds_toArray, List.set_cons_zero, List.set_cons_succ]
  refine wpAnyH_take (i := 19) (oi := { dst := some 49, op := Op.pick (Operand.tmp 41) (Operand.tmp 48) (Operand.const (Value.bool false)), type := 4, pos := "law.go:41", after := #[{ on := 11, ground := Ground.data }, { on := 18, ground := Ground.data }], guard := none }) (v := ?_) rfl (by kernel_rfl) (by kernel_rfl) (by kernel_rfl) (fun _ _ _ h => h) (Or.inl ⟨by rfl, ?_⟩) hHeld ?_
  rotate_left
  · intro w hSw
    try dsimp only at hSw
    go_simp
    try with_reducible rfl
  try simp only [Act.put, List.setIfInBounds_toArray, List.set_cons_zero, List.set_cons_succ]
  refine wpAnyH_take (i := 20) (oi := { dst := some 50, op := Op.move (Operand.tmp 49), type := 4, pos := "law.go:41", after := #[{ on := 19, ground := Ground.data }, { on := 17, ground := Ground.chain }], guard := none }) (v := ?_) rfl (by kernel_rfl) (by kernel_rfl) (by kernel_rfl) (fun _ _ _ h => h) (Or.inl ⟨by rfl, ?_⟩) hHeld ?_
  rotate_left
  · intro w hSw
    try dsimp only at hSw
    go_simp
    try with_reducible rfl
  try simp only [Act.put, List.setIfInBounds_toArray, List.set_cons_zero, List.set_cons_succ]
  refine wpAnyH_take (i := 21) (oi := { dst := some 51, op := Op.move (Operand.tmp 2), type := 9, pos := "law.go:41", after := #[{ on := 20, ground := Ground.guard }], guard := some (20, true) }) (v := ?_) rfl (by kernel_rfl) (by kernel_rfl) (by kernel_rfl) (fun _ _ _ h => h) (Or.inl ⟨by rfl, ?_⟩) hHeld ?_
  rotate_left
  · intro w hSw
    try dsimp only at hSw
    go_simp
    try with_reducible rfl
  try simp only [Act.put, List.setIfInBounds_toArray, List.set_cons_zero, List.set_cons_succ]
  refine wpAnyH_take (i := 22) (oi := { dst := some 52, op := Op.load 75 (Operand.tmp 3), type := 75, pos := "law.go:41", after := #[{ on := 20, ground := Ground.guard }], guard := some (20, true) }) (v := ?_) rfl (by kernel_rfl) (by kernel_rfl) (by kernel_rfl) (fun _ _ _ h => h) (Or.inl ⟨by rfl, ?_⟩) hHeld ?_
  rotate_left
  · intro w hSw
    try dsimp only at hSw
    go_simp
    try with_reducible rfl
  try simp only [Act.put, List.setIfInBounds_toArray, List.set_cons_zero, List.set_cons_succ]
  refine wpAnyH_take (i := 24) (oi := { dst := some 54, op := Op.move (Operand.tmp 2), type := 9, pos := "law.go:41", after := #[{ on := 20, ground := Ground.guard }], guard := some (20, true) }) (v := ?_) rfl (by kernel_rfl) (by kernel_rfl) (by kernel_rfl) (fun _ _ _ h => h) (Or.inl ⟨by rfl, ?_⟩) hHeld ?_
  rotate_left
  · intro w hSw
    try dsimp only at hSw
    go_simp
    try with_reducible rfl
  try simp only [Act.put, List.setIfInBounds_toArray, List.set_cons_zero, List.set_cons_succ]
  refine wpAnyH_take (i := 25) (oi := { dst := some 55, op := Op.load 75 (Operand.tmp 3), type := 75, pos := "law.go:41", after := #[{ on := 20, ground := Ground.guard }], guard := some (20, true) }) (v := ?_) rfl (by kernel_rfl) (by kernel_rfl) (by kernel_rfl) (fun _ _ _ h => h) (Or.inl ⟨by rfl, ?_⟩) hHeld ?_
  rotate_left
  · intro w hSw
    try dsimp only at hSw
    go_simp
    try with_reducible rfl
  try simp only [Act.put, List.setIfInBounds_toArray, List.set_cons_zero, List.set_cons_succ]
  refine wpAnyH_ready (rs := [23]) (by kernel_rfl) (by simp) ?_
  refine AllReadyH.cons (o := { dst := some 53, op := Op.call { callee := Callee.value (Operand.func 59), args := #[Operand.tmp 51, Operand.tmp 52], argTypes := #[9, 75] }, type := 81, pos := "law.go:41", after := #[{ on := 21, ground := Ground.data }, { on := 22, ground := Ground.data }, { on := 20, ground := Ground.chain }, { on := 20, ground := Ground.guard }], guard := some (20, true) }) rfl (fun K hK => ?_) (AllReadyH.nil)
  go_simp
  refine (hm1 _ hHeld.1).mono ?_; rintro e w_55 ⟨⟨Ax, cx, rfl, Mx⟩, hb_55⟩
  try go_wp2_with fail
  refine hK.out _ _ (sx_on hHeld hb_55) (fun hHeld2 => ?_)
  clear hK K hHeld; have hHeld := hHeld2; clear hHeld2
  try simp only [Act.put, List.setIfInBounds_toArray, List.set_cons_zero, List.set_cons_succ]
  refine wpAnyH_ready (rs := [26]) (by kernel_rfl) (by simp) ?_
  refine AllReadyH.cons (o := { dst := some 56, op := Op.call { callee := Callee.value (Operand.func 60), args := #[Operand.tmp 54, Operand.tmp 55], argTypes := #[9, 75] }, type := 81, pos := "law.go:41", after := #[{ on := 24, ground := Ground.data }, { on := 25, ground := Ground.data }, { on := 23, ground := Ground.chain }, { on := 20, ground := Ground.guard }], guard := some (20, true) }) rfl (fun K hK => ?_) (AllReadyH.nil)
  go_simp
  refine (hm2 _ hHeld.1).mono ?_; rintro e w_56 ⟨⟨Ay, cy, rfl, My⟩, hb_56⟩
  try go_wp2_with fail
  have Mx2 := mis_ca Mx hb_56
  refine hK.out _ _ (sx_on hHeld hb_56) (fun hHeld2 => ?_)
  clear hK K hHeld; have hHeld := hHeld2; clear hHeld2
  try simp only [Act.put, List.setIfInBounds_toArray, List.set_cons_zero, List.set_cons_succ]
  refine wpAnyH_ready (rs := [27]) (by kernel_rfl) (by simp) ?_
  refine AllReadyH.cons (o := { dst := some 57, op := Op.call { callee := Callee.value (Operand.func 58), args := #[Operand.tmp 53, Operand.tmp 56], argTypes := #[81, 81] }, type := 4, pos := "law.go:41", after := #[{ on := 23, ground := Ground.data }, { on := 26, ground := Ground.data }, { on := 26, ground := Ground.chain }, { on := 20, ground := Ground.guard }], guard := some (20, true) }) rfl (fun K hK => ?_) (AllReadyH.nil)
  go_simp
  refine (hss _ _ _ _ _ Mx2 My).mono ?_; rintro e w_57 ⟨rfl, hb_57⟩
  try go_wp2_with fail
  refine hK.out _ _ (sx_on hHeld hb_57) (fun hHeld2 => ?_)
  clear hK K hHeld; have hHeld := hHeld2; clear hHeld2
  try simp only [Act.put, List.setIfInBounds_toArray, List.set_cons_zero, List.set_cons_succ]
  refine wpAnyH_take (i := 28) (oi := { dst := some 58, op := Op.pick (Operand.tmp 50) (Operand.tmp 57) (Operand.const (Value.bool false)), type := 4, pos := "law.go:41", after := #[{ on := 20, ground := Ground.data }, { on := 27, ground := Ground.data }], guard := none }) (v := ?_) rfl (by kernel_rfl) (by kernel_rfl) (by kernel_rfl) (fun _ _ _ h => h) (Or.inl ⟨by rfl, ?_⟩) hHeld ?_
  rotate_left
  · intro w hSw
    try dsimp only at hSw
    go_simp
    try with_reducible rfl
  try simp only [Act.put, List.setIfInBounds_toArray, List.set_cons_zero, List.set_cons_succ]
  refine wpAnyH_take (i := 29) (oi := { dst := some 6, op := Op.assign (Operand.tmp 58), type := 4, pos := "law.go:41", after := #[{ on := 28, ground := Ground.data }, { on := 27, ground := Ground.chain }, { on := 0, ground := Ground.phase }, { on := 1, ground := Ground.phase }, { on := 2, ground := Ground.phase }, { on := 3, ground := Ground.phase }, { on := 4, ground := Ground.phase }, { on := 5, ground := Ground.phase }, { on := 6, ground := Ground.phase }, { on := 7, ground := Ground.phase }, { on := 8, ground := Ground.phase }, { on := 9, ground := Ground.phase }, { on := 10, ground := Ground.phase }, { on := 11, ground := Ground.phase }, { on := 12, ground := Ground.phase }, { on := 13, ground := Ground.phase }, { on := 14, ground := Ground.phase }, { on := 15, ground := Ground.phase }, { on := 16, ground := Ground.phase }, { on := 17, ground := Ground.phase }, { on := 18, ground := Ground.phase }, { on := 19, ground := Ground.phase }, { on := 20, ground := Ground.phase }, { on := 21, ground := Ground.phase }, { on := 22, ground := Ground.phase }, { on := 23, ground := Ground.phase }, { on := 24, ground := Ground.phase }, { on := 25, ground := Ground.phase }, { on := 26, ground := Ground.phase }, { on := 27, ground := Ground.phase }, { on := 28, ground := Ground.phase }], guard := none }) (v := ?_) rfl (by kernel_rfl) (by kernel_rfl) (by kernel_rfl) (fun _ _ _ h => h) (Or.inl ⟨by rfl, ?_⟩) hHeld ?_
  rotate_left
  · intro w hSw
    try dsimp only at hSw
    go_simp
    try with_reducible rfl
  try simp only [Act.put, List.setIfInBounds_toArray, List.set_cons_zero, List.set_cons_succ]
  refine wpAnyH_done (by kernel_rfl) ?_ _
  have hbel := hHeld.1.2; clear hHeld ZZ
  go_wp2_with fail
  go_ret
  exact ⟨rfl, hbel⟩
set_option maxRecDepth 100000 in
theorem stells_long (P F L : Int) (A A2 A3 : Option Addr) (n c n2 c2 n3 c3 : Nat) (l t : List Rc) (q : List Int) (key : ByteArray) (w : World) (hT : Tab w) (hp : PlanR w w.heap.size P A A2 n n2 l q) (hnc : n ≤ c) (hR : Recs w w.heap.size A3 n3 t) (hm3 : n3 ≤ maxLen) (hn : ¬ ((n ≤ 24 ∧ n2 ≤ 24) ∧ n3 ≤ 60)) :
    Calls Tryd.prog 11 #[plV P A A2 n c n2 c2, tbV F L A3 n3 c3, .string key] w fun e w' => e = .returned (.bool true) ∧ Below w.heap.size w w' := by
  have i0 := Inv.start hT
  have hz1 := fun w => sm28_any P A A2 n c n2 c2 w hp.m hp.m2
  have hz2 := fun w => small_any F L A3 n3 c3 w hm3
  have i2 := (i0.alloc (.cells #[.int .i64 P, .slice A n c, .slice A2 n2 c2] 75)).alloc (.cells (tbA F L A3 n3 c3) 40)
  have x2 := (Blk.new w 75 #[.int .i64 P, .slice A n c, .slice A2 n2 c2]).alloc (.cells (tbA F L A3 n3 c3) 40)
  have y2 := blk_at (w.alloc (.cells #[.int .i64 P, .slice A n c, .slice A2 n2 c2] 75)) 40 (tbA F L A3 n3 c3) (sz1 w _ rfl)
  by_cases h1 : n ≤ 24 ∧ n2 ≤ 24
  · have h2 : ¬ n3 ≤ 60 := fun h => hn ⟨h1, h⟩
    simp only [if_pos h1] at hz1
    simp only [if_neg h2] at hz2
    clear h1 h2 hn
    go_enter Tryd.func11, Tryd.ntmps11
    go_wp2_with (first | refine wpList_row_g rfl 75 _ rfl _ rfl _ _ _ _ x2 Tryd.underlying75 rfl (by kernel_rfl) ?_)
    refine (hz1 _).mono ?_; rintro e w3 ⟨rfl, hb3⟩
    have y3 := y2.below hb3 y2.lt
    have i3 := i2.call hb3
    go_wp2_with (first | refine wpList_row_g rfl 40 _ rfl _ rfl _ _ _ _ y3 Tryd.underlying40 rfl (by kernel_rfl) ?_)
    refine (hz2 _).mono ?_; rintro e w4 ⟨rfl, hb4⟩
    have i4 := i3.call hb4
    go_wp2_with fail
    refine (lives28_any _ i4.1).mono ?_; rintro e w5 ⟨rfl, hb5⟩
    have i5 := i4.call hb5
    go_wp2_with fail
    go_ret
    exact ⟨rfl, i5.2⟩
  · simp only [if_neg h1] at hz1
    clear h1 hn
    go_enter Tryd.func11, Tryd.ntmps11
    go_wp2_with (first | refine wpList_row_g rfl 75 _ rfl _ rfl _ _ _ _ x2 Tryd.underlying75 rfl (by kernel_rfl) ?_)
    refine (hz1 _).mono ?_; rintro e w3 ⟨rfl, hb3⟩
    have i3 := i2.call hb3
    go_wp2_with fail
    refine (lives28_any _ i3.1).mono ?_; rintro e w5 ⟨rfl, hb5⟩
    have i5 := i3.call hb5
    go_wp2_with fail
    go_ret
    exact ⟨rfl, i5.2⟩
theorem stells_any (P F L : Int) (A A2 A3 : Option Addr) (n c n2 c2 n3 c3 : Nat) (l t : List Rc) (q : List Int) (key : ByteArray) (w : World) (hT : Tab w) (hp : PlanR w w.heap.size P A A2 n n2 l q) (hnc : n ≤ c) (hR : Recs w w.heap.size A3 n3 t) (hm3 : n3 ≤ maxLen) :
    Calls Tryd.prog 11 #[plV P A A2 n c n2 c2, tbV F L A3 n3 c3, .string key] w fun e w' => e = .returned (.bool true) ∧ Below w.heap.size w w' := by
  by_cases hn : (n ≤ 24 ∧ n2 ≤ 24) ∧ n3 ≤ 60
  rotate_left
  · exact stells_long P F L A A2 A3 n c n2 c2 n3 c3 l t q key w hT hp hnc hR hm3 hn
  obtain ⟨⟨n1, n4⟩, n5⟩ := hn
  have hpw := fun W (iv : Inv w W) => (hp.below iv.2).more iv.2.size
  have hRw := fun W (iv : Inv w W) => (hR.below iv.2).more iv.2.size
  have hml : (msL P q).length ≤ maxLen := by
    have := msK_len P q (msN P q.length)
    have h2 : msN P q.length ≤ 24 := by unfold msN; have := hp.len.2; split <;> omega
    have h3 : (msL P q).length ≤ 24 := Nat.le_trans this h2
    unfold maxLen; omega
  have hz1 : ∀ W, Inv w W → Calls Tryd.prog 52 #[plV P A A2 n c n2 c2] W fun e w' => e = .returned (.int .i64 1) ∧ Below W.heap.size W w' := fun W _ => by
    have := sm28_any P A A2 n c n2 c2 W hp.m hp.m2
    rwa [if_pos ⟨n1, n4⟩] at this
  have hz2 : ∀ W, Inv w W → Calls Tryd.prog 28 #[tbV F L A3 n3 c3] W fun e w' => e = .returned (.int .i64 1) ∧ Below W.heap.size W w' := fun W _ => by
    have := small_any F L A3 n3 c3 W hm3
    rwa [if_pos n5] at this
  have ht1 := fun W (iv : Inv w W) => tells_any F L A3 n3 c3 t P A A2 n c n2 c2 l q W iv.1 (hRw W iv) hm3 (hpw W iv)
  have ht2 := fun W (iv : Inv w W) => rtells_any F L A3 n3 c3 t P A A2 n c n2 c2 l q W iv.1 (hRw W iv) hm3 (hpw W iv)
  have hm1 := fun W (iv : Inv w W) => (missed_any key P A A2 n c n2 c2 l q W iv.1 (hpw W iv) (by omega)).mono fun _ _ ⟨A', c', he, _, hr, hb⟩ => show (∃ A' c', _ = Ending.returned (.slice A' (msL P q).length c') ∧ Mis _ _ A' (msL P q).length key (msL P q)) ∧ _ from ⟨⟨A', c', he, rfl, hr⟩, hb⟩
  have hm2 := fun W (iv : Inv w W) => (rmissed_any key P A A2 n c n2 c2 l q W iv.1 (hpw W iv) (by omega)).mono fun _ _ ⟨A', c', he, _, hr, hb⟩ => show (∃ A' c', _ = Ending.returned (.slice A' (msL P q).length c') ∧ Mis _ _ A' (msL P q).length key (msL P q)) ∧ _ from ⟨⟨A', c', he, rfl, hr⟩, hb⟩
  rcases pl_01 P l q with h0 | ⟨h0, k1, k2, _⟩
  · refine stells_main P F L 0 0 2 _ A A2 A3 n c n2 c2 n3 c3 0 _ [] key _ (Nat.zero_le _) hml w hT hz1 hz2 (fun W iv => ?_) (fun W iv => ?_) ht1 ht2 hm1 hm2
    · refine (qtable_any P A A2 n c n2 c2 l q W iv.1 (hpw W iv) hnc).mono ?_
      rintro r w' ⟨⟨_, rfl⟩ | ⟨h9, _⟩, hb⟩
      · exact ⟨⟨none, 0, rfl, rfl, Reads.none_, fun _ h => absurd h (List.not_mem_nil)⟩, hb⟩
      · rw [h0] at h9; simp at h9
    · refine (rtable_bad P A A2 n c n2 c2 l q W iv.1 (hpw W iv) hnc h0).mono ?_
      rintro r w' ⟨rfl, hb⟩
      exact ⟨⟨none, 0, rfl, rfl, Reads.none_, fun _ h => absurd h (List.not_mem_nil)⟩, hb⟩
  · obtain ⟨a, b, hS⟩ := sqt_ex k2
    have s1 := hS.le; have s2 := hS.lt
    have hl := hp.len.1
    refine stells_main P F L (P + (a : Int)) (P + (b : Int)) 0 _ A A2 A3 n c n2 c2 n3 c3 (b - a + 1) _ (sub l a b) key _ (by unfold maxLen; omega) hml w hT hz1 hz2 (fun W iv => ?_) (fun W iv => ?_) ht1 ht2 hm1 hm2
    · refine (qtable_any P A A2 n c n2 c2 l q W iv.1 (hpw W iv) hnc).mono ?_
      rintro r w' ⟨⟨h9, _⟩ | ⟨_, a', b', g, hS', hR', rfl⟩, hb⟩
      · rw [h0] at h9; simp at h9
      · obtain ⟨rfl, rfl⟩ := sqt_uniq hS' hS
        exact ⟨⟨_, _, rfl, hR'⟩, hb⟩
    · refine (rtable_main P A A2 n c n2 c2 l q W iv.1 (hpw W iv) hnc h0 (by omega) a b hS).mono ?_
      rintro r w' ⟨A', c', rfl, hR', hb⟩
      exact ⟨⟨A', c', rfl, hR'⟩, hb⟩
end Go.Proofs.YtefcjccapekjdaaDoor.Sq
