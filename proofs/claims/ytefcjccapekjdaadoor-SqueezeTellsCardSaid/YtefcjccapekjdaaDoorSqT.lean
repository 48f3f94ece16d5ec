/-
  PLANS told by tables; a plan's year: walked.
-/
import Derived.Test.YtefcjccapekjdaaDoorSqC
import Derived.BigQuiet
namespace Go.Proofs.YtefcjccapekjdaaDoor.Sq
open Go.ChangeShapes Go.WideShapes Go.ChangeAt Go.RowKit
open Go.Proofs.YtefcjccapekjdaaDoor
open Go.Proofs.YtefcjccapekjdaaDoor.Wd
open Go.Proofs.YtefcjccapekjdaaDoor.Rec
open Go.Proofs.YtefcjccapekjdaaDoor.Yr
open Go.Proofs.YtefcjccapekjdaaDoor.Clk (yrV yrE)
open Go.Proofs.YtefcjccapekjdaaDoor.Civ (Tab Inv)
set_option linter.unusedVariables false
open Go.Proofs.YtefcjccapekjdaaDoor.Tb
/-- the record of the year that the table has is that of the plan -/
def tlAt (F L : Int) (t : List Rc) (P : Int) (l : List Rc) (i : Nat) : Bool := decide (pkE F L t (P + (i : Int)) = 0) && eqRc (pkR F L t (P + (i : Int))) (ra_ l i)
def tlOk (F L : Int) (t : List Rc) (P : Int) (l : List Rc) (q : List Int) : Bool := plOk P l q && (List.range l.length).all fun i => tlAt F L t P l i
theorem tl_no {F L P : Int} {t l : List Rc} {q : List Int} (h : plE P l q = 2) : tlOk F L t P l q = false := by
  unfold tlOk; unfold plE at h
  cases e : plOk P l q with
  | false => rfl
  | true => rw [e] at h; simp at h
theorem tl_no2 {F L P : Int} {t l : List Rc} {q : List Int} {k : Nat} (hk : k < l.length) (h : tlAt F L t P l k = false) : tlOk F L t P l q = false := by
  unfold tlOk
  cases e : plOk P l q with
  | false => rfl
  | true => rw [Bool.true_and, List.all_eq_false]; exact ⟨k, List.mem_range.2 hk, by rw [h]; decide⟩
theorem tl_yes {F L P : Int} {t l : List Rc} {q : List Int} (h1 : plE P l q = 0) (h : ∀ k, k < l.length → tlAt F L t P l k = true) : tlOk F L t P l q = true := by
  unfold tlOk; unfold plE at h1
  cases e : plOk P l q with
  | false => rw [e] at h1; simp at h1
  | true => rw [Bool.true_and, List.all_eq_true]; exact fun i hi => h i (List.mem_range.1 hi)
theorem pl_01 (P : Int) (l : List Rc) (q : List Int) : plE P l q = 2 ∨ (plE P l q = 0 ∧ 1601 ≤ P ∧ 1 ≤ l.length ∧ l.length ≤ 400 ∧ q.length = l.length ∧ P ≤ 10000 - (l.length : Int)) := by
  unfold plE
  cases e : plOk P l q with
  | false => left; rfl
  | true => right; exact ⟨rfl, (pl_iff.1 e).1⟩
set_option maxRecDepth 100000 in
set_option maxHeartbeats 6400000 in
attribute [-go_sem] run_eql_struct run_neq_struct in
theorem tells_any (F L : Int) (A3 : Option Addr) (n3 c3 : Nat) (t : List Rc) (P : Int) (A A2 : Option Addr) (n c n2 c2 : Nat) (l : List Rc) (q : List Int) (w : World) (hT : Tab w) (hR : Recs w w.heap.size A3 n3 t) (hm3 : n3 ≤ maxLen) (hp : PlanR w w.heap.size P A A2 n n2 l q) :
    Calls Tryd.prog 56 #[tbV F L A3 n3 c3, plV P A A2 n c n2 c2] w fun e w' => e = .returned (.bool (tlOk F L t P l q)) ∧ Below w.heap.size w w' := by
  have i0 := Inv.start hT
  have i1 := (i0.alloc (.cells (tbA F L A3 n3 c3) 40)).alloc (.cells #[.int .i64 P, .slice A n c, .slice A2 n2 c2] 75)
  have x1 := (Blk.new w 40 (tbA F L A3 n3 c3)).alloc (.cells #[.int .i64 P, .slice A n c, .slice A2 n2 c2] 75)
  have y1 := blk_at (w.alloc (.cells (tbA F L A3 n3 c3) 40)) 75 #[.int .i64 P, .slice A n c, .slice A2 n2 c2] (sz1 w _ rfl)
  obtain ⟨hl, hq⟩ := hp.len
  have hpp := hp.p; have hm := hp.m; have hm2 := hp.m2
  unfold maxLen at hm hm2
  have hck := fun W (iv : Inv w W) => check_any P A A2 n c n2 c2 l q W iv.1 ((hp.below iv.2).more iv.2.size)
  have hpk := fun y W (iv : Inv w W) => pick_any F L A3 n3 c3 w.heap.size t y W iv.1 (hR.below iv.2) iv.2.size hm3
  rcases pl_01 P l q with h0 | ⟨h0, k1, k2, k3, k4, k5⟩
  · have hE := Lib.hid (tl_no (F := F) (L := L) (t := t) h0)
    rw [h0] at hck
    clear h0
    go_enter Tryd.func56, Tryd.ntmps56
    go_wp2_with (refine wpList_row_g rfl 75 _ rfl _ rfl _ _ _ _ y1 Tryd.underlying75 rfl (by kernel_rfl) ?_)
    refine (hck _ i1).mono ?_; rintro e w2 ⟨rfl, hb2⟩
    have i2 := i1.call hb2
    go_wp2_with fail
    go_ret
    exact ⟨by rw [hE.out]; rfl, i2.2⟩
  · have HY := Lib.hid (fun h => tl_yes (F := F) (L := L) (t := t) (P := P) (l := l) (q := q) h0 h)
    have HN := Lib.hid (fun k (hk : k < l.length) h => tl_no2 (F := F) (L := L) (t := t) (P := P) (l := l) (q := q) (k := k) hk h)
    rw [h0] at hck
    clear h0
    go_enter Tryd.func56, Tryd.ntmps56
    go_wp2_with (refine wpList_row_g rfl 75 _ rfl _ rfl _ _ _ _ y1 Tryd.underlying75 rfl (by kernel_rfl) ?_)
    refine (hck _ i1).mono ?_; rintro e w2 ⟨rfl, hb2⟩
    have i2 := i1.call hb2
    have x2 := x1.below hb2 x1.lt
    have y2 := y1.below hb2 y1.lt
    clear i1 x1 y1 hb2 i0 hck
    have d2 := y2.cell 1
    simp at d2
    go_wp2_with fail
    go_loopw [15, 5] (fun i _ wr => ∃ k : Nat, i = .int .i64 k ∧ k ≤ n ∧ (∀ j, j < k → tlAt F L t P l j = true) ∧ Blk wr w.heap.size 40 (tbA F L A3 n3 c3) ∧ Blk wr (w.heap.size + 1) 75 #[.int .i64 P, .slice A n c, .slice A2 n2 c2] ∧ Inv w wr) (fun i _ _ => n - (intOf i).toNat)
    case atStart => exact ⟨0, rfl, Nat.zero_le _, fun j hj => absurd hj (Nat.not_lt_zero _), x2, y2, i2⟩
    case round =>
      clear x2 y2 i2 d2
      obtain ⟨k, rfl, hk, hall, hx, hy, hi⟩ := hrel
      have HA := Lib.hid hall; clear hall
      by_cases hlt : k < n
      · have hlt' : (k : Int) < (n : Int) := by omega
        obtain ⟨ad, rfl, r1⟩ := (hp.r.below hi.2).row hlt (by omega)
        rw [ra_eq (by omega)] at r1
        have hbd : (ra_ l k).Bd := by rw [← ra_eq (show k < l.length by omega)]; exact hp.r.bd _
        have HNk := Lib.hid (HN.out k (by omega))
        have HSk := Lib.hid (fun (z : tlAt F L t P l k = true) => (show ∀ j, j < k + 1 → tlAt F L t P l j = true from fun j hj => by
          by_cases e : j = k
          · subst e; exact z
          · exact HA.out j (by omega)))
        have hpk2 := hpk (P + (k : Int))
        have hta : tlAt F L t P l k = (decide (pkE F L t (P + (k : Int)) = 0) && eqRc (pkR F L t (P + (k : Int))) (ra_ l k)) := rfl
        generalize pkR F L t (P + (k : Int)) = r at *
        generalize pkE F L t (P + (k : Int)) = E at *
        generalize ra_ l k = a at *
        have hqq := neq_rcc r a
        have hi2 := hi.alloc (.cells a.A 26)
        have hx2 := hx.alloc (.cells a.A 26)
        have hy2 := hy.alloc (.cells a.A 26)
        have hz2 := Blk.new wr 26 a.A
        have hd0 : (wr.alloc (.cells a.A 26)).cell? ⟨w.heap.size + 1, 0, none⟩ = some (.int .i64 P) := hy2.cell 0
        go_wp2_with (first | refine wpList_at_g rfl 26 _ rfl w.heap.size _ a.A rfl _ r1 Tryd.underlying26 rfl (by kernel_rfl) ?_ | refine wpList_store_new rfl 26 _ _ rfl rfl wr.heap.size a.A rfl rfl _ #[.int .i32 0, .int .i32 0, .int .i32 0, .int .u16 0, .int .u16 0, .int .u16 0, .int .u16 0, .int .u16 0, .int .u16 0, .int .u16 0, .int .u16 0, .int .u16 0, .int .u16 0, .int .u16 0, .int .u16 0, .int .u16 0, .int .u16 0, .int .u16 0, .int .u16 0] wr rfl rfl rfl (by kernel_rfl) (by kernel_rfl) ?_ | refine wpList_row_g rfl 40 _ rfl _ rfl _ _ _ _ hx2 Tryd.underlying40 rfl (by kernel_rfl) ?_)
        refine (hpk2 _ hi2).mono ?_; rintro e w3 ⟨rfl, hb3⟩
        have i3 := (hi2.call hb3).alloc (.cells r.A 26)
        have x3 := (hx2.below hb3 hx2.lt).alloc (.cells r.A 26)
        have y3 := (hy2.below hb3 hy2.lt).alloc (.cells r.A 26)
        have z3 := (hz2.below hb3 hz2.lt).alloc (.cells r.A 26)
        have u3 := Blk.new w3 26 r.A
        clear hi2 hx2 hy2 hz2 hb3 r1 hd0
        generalize wr.heap.size = gz at *
        by_cases h5 : E = 0
        · have h5b : (E != 0) = false := by simp [h5]
          cases he : eqRc r a with
          | false =>
            rw [he] at hqq
            have hE := Lib.hid (HNk.out (by rw [hta, he, Bool.and_false]))
            clear he HNk HSk HA hta h5
            go_wp2_with (first | refine wpList_store_new rfl 26 _ _ rfl rfl w3.heap.size r.A rfl rfl _ #[.int .i32 0, .int .i32 0, .int .i32 0, .int .u16 0, .int .u16 0, .int .u16 0, .int .u16 0, .int .u16 0, .int .u16 0, .int .u16 0, .int .u16 0, .int .u16 0, .int .u16 0, .int .u16 0, .int .u16 0, .int .u16 0, .int .u16 0, .int .u16 0, .int .u16 0] w3 rfl rfl rfl (by kernel_rfl) (by kernel_rfl) ?_ | refine wpList_row_g rfl 26 _ rfl _ rfl _ _ _ _ u3 Tryd.underlying26 rfl (by kernel_rfl) ?_ | refine wpList_row_g rfl 26 _ rfl _ rfl _ _ _ _ z3 Tryd.underlying26 rfl (by kernel_rfl) ?_)
            go_ret
            exact ⟨by rw [hE.out]; rfl, i3.2⟩
          | true =>
            rw [he] at hqq
            have hN := Lib.hid (HSk.out (by rw [hta, he, h5]; rfl))
            clear he HNk HSk HA hta h5
            go_wp2_with (first | refine wpList_store_new rfl 26 _ _ rfl rfl w3.heap.size r.A rfl rfl _ #[.int .i32 0, .int .i32 0, .int .i32 0, .int .u16 0, .int .u16 0, .int .u16 0, .int .u16 0, .int .u16 0, .int .u16 0, .int .u16 0, .int .u16 0, .int .u16 0, .int .u16 0, .int .u16 0, .int .u16 0, .int .u16 0, .int .u16 0, .int .u16 0, .int .u16 0] w3 rfl rfl rfl (by kernel_rfl) (by kernel_rfl) ?_ | refine wpList_row_g rfl 26 _ rfl _ rfl _ _ _ _ u3 Tryd.underlying26 rfl (by kernel_rfl) ?_ | refine wpList_row_g rfl 26 _ rfl _ rfl _ _ _ _ z3 Tryd.underlying26 rfl (by kernel_rfl) ?_)
            go_roundw
            case rel => exact ⟨k + 1, by go_num, by omega, hN.out, x3, y3, i3⟩
            case measure => simp [intOf]; omega
        · have h5b : (E != 0) = true := by simp [h5]
          have hE := Lib.hid (HNk.out (by rw [hta, decide_eq_false h5]; rfl))
          clear HNk HSk HA hta h5
          go_wp2_with (first | refine wpList_store_new rfl 26 _ _ rfl rfl w3.heap.size r.A rfl rfl _ #[.int .i32 0, .int .i32 0, .int .i32 0, .int .u16 0, .int .u16 0, .int .u16 0, .int .u16 0, .int .u16 0, .int .u16 0, .int .u16 0, .int .u16 0, .int .u16 0, .int .u16 0, .int .u16 0, .int .u16 0, .int .u16 0, .int .u16 0, .int .u16 0, .int .u16 0] w3 rfl rfl rfl (by kernel_rfl) (by kernel_rfl) ?_ | refine wpList_row_g rfl 26 _ rfl _ rfl _ _ _ _ u3 Tryd.underlying26 rfl (by kernel_rfl) ?_ | refine wpList_row_g rfl 26 _ rfl _ rfl _ _ _ _ z3 Tryd.underlying26 rfl (by kernel_rfl) ?_)
          go_ret
          exact ⟨by rw [hE.out]; rfl, i3.2⟩
      · obtain rfl : n = k := by omega
        have hlt' : ¬ (n : Int) < (n : Int) := by omega
        have hE := Lib.hid (HY.out (fun i hi => HA.out i (by omega)))
        go_wp2_with fail
        go_ret
        exact ⟨by rw [hE.out]; rfl, hi.2⟩
end Go.Proofs.YtefcjccapekjdaaDoor.Sq
