/-
  PLANS: checked; told by a table: walked.
-/
import Derived.Test.YtefcjccapekjdaaDoorTbP
import Derived.Test.YtefcjccapekjdaaDoorTcE
namespace Go.Proofs.YtefcjccapekjdaaDoor.Sq
open Go.ChangeShapes Go.WideShapes Go.ChangeAt Go.RowKit
open Go.Proofs.YtefcjccapekjdaaDoor
open Go.Proofs.YtefcjccapekjdaaDoor.Wd
open Go.Proofs.YtefcjccapekjdaaDoor.Rec
open Go.Proofs.YtefcjccapekjdaaDoor.Yr
open Go.Proofs.YtefcjccapekjdaaDoor.Clk (yrV yrE)
open Go.Proofs.YtefcjccapekjdaaDoor.Civ (Tab Inv)
set_option linter.unusedVariables false
open Go.Proofs.YtefcjccapekjdaaDoor.Tb
/-- a plan's slices read as lists -/
structure PlanR (w : World) (B : Nat) (P : Int) (A A2 : Option Addr) (n n2 : Nat) (l : List Rc) (q : List Int) : Prop where
  r : Recs w B A n l
  e : Reads w B 1 A2 n2 (q.map (Value.int .u8))
  p : -9223372036854775808 ≤ P ∧ P ≤ 9223372036854775807
  m : n ≤ maxLen
  m2 : n2 ≤ maxLen
theorem PlanR.below {w w' : World} {B : Nat} {P : Int} {A A2 : Option Addr} {n n2 : Nat} {l : List Rc} {q : List Int} (h : PlanR w B P A A2 n n2 l q) (hb : Below B w w') : PlanR w' B P A A2 n n2 l q := ⟨h.r.below hb, h.e.below hb, h.p, h.m, h.m2⟩
theorem PlanR.more {w : World} {B B' : Nat} {P : Int} {A A2 : Option Addr} {n n2 : Nat} {l : List Rc} {q : List Int} (h : PlanR w B P A A2 n n2 l q) (hb : B ≤ B') : PlanR w B' P A A2 n n2 l q := ⟨h.r.more hb, h.e.more hb, h.p, h.m, h.m2⟩
theorem PlanR.len {w : World} {B : Nat} {P : Int} {A A2 : Option Addr} {n n2 : Nat} {l : List Rc} {q : List Int} (h : PlanR w B P A A2 n n2 l q) : l.length = n ∧ q.length = n2 := ⟨h.r.1, by have := h.e.1; simpa using this⟩
def rsOk (z : Int) : Bool := decide (z < 6)
def plOk (P : Int) (l : List Rc) (q : List Int) : Bool := decide (1601 ≤ P ∧ 1 ≤ l.length ∧ l.length ≤ 400 ∧ q.length = l.length ∧ P ≤ 10000 - (l.length : Int)) && (List.range l.length).all fun i => (ra_ l i).ok && rsOk (q.getD i 0)
def plE (P : Int) (l : List Rc) (q : List Int) : Int := if plOk P l q = true then 0 else 2
theorem pl_iff {P : Int} {l : List Rc} {q : List Int} : plOk P l q = true ↔ (1601 ≤ P ∧ 1 ≤ l.length ∧ l.length ≤ 400 ∧ q.length = l.length ∧ P ≤ 10000 - (l.length : Int)) ∧ ∀ i, i < l.length → (ra_ l i).ok = true ∧ rsOk (q.getD i 0) = true := by
  unfold plOk
  rw [Bool.and_eq_true, decide_eq_true_iff, List.all_eq_true]
  constructor
  · rintro ⟨h1, h2⟩
    refine ⟨h1, fun i hi => ?_⟩
    have := h2 i (List.mem_range.2 hi)
    rwa [Bool.and_eq_true] at this
  · rintro ⟨h1, h2⟩
    refine ⟨h1, fun i hi => ?_⟩
    rw [Bool.and_eq_true]
    exact h2 i (List.mem_range.1 hi)
theorem pl_no {P : Int} {l : List Rc} {q : List Int} (h : ¬ (1601 ≤ P ∧ 1 ≤ l.length ∧ l.length ≤ 400 ∧ q.length = l.length ∧ P ≤ 10000 - (l.length : Int))) : plE P l q = 2 := by
  unfold plE; rw [if_neg]; intro h'; exact h (pl_iff.1 h').1
theorem pl_no2 {P : Int} {l : List Rc} {q : List Int} {k : Nat} (hk : k < l.length) (h : ¬ ((ra_ l k).ok = true ∧ rsOk (q.getD k 0) = true)) : plE P l q = 2 := by
  unfold plE; rw [if_neg]; intro h'; exact h ((pl_iff.1 h').2 k hk)
theorem pl_yes {P : Int} {l : List Rc} {q : List Int} (h1 : 1601 ≤ P ∧ 1 ≤ l.length ∧ l.length ≤ 400 ∧ q.length = l.length ∧ P ≤ 10000 - (l.length : Int)) (h2 : ∀ i, i < l.length → (ra_ l i).ok = true ∧ rsOk (q.getD i 0) = true) : plE P l q = 0 := by
  unfold plE; rw [if_pos (pl_iff.2 ⟨h1, h2⟩)]
abbrev plV (P : Int) (A A2 : Option Addr) (n c n2 c2 : Nat) : Value := .agg #[.int .i64 P, .slice A n c, .slice A2 n2 c2]
abbrev plA (P : Int) (A A2 : Option Addr) (n c n2 c2 : Nat) : Array Value := #[.int .i64 P, .slice A n c, .slice A2 n2 c2]
set_option maxRecDepth 100000 in
set_option maxHeartbeats 3200000 in
theorem check_loop (P : Int) (A A2 : Option Addr) (n c c2 : Nat) (l : List Rc) (q : List Int) (w : World) (hT : Tab w) (hp : PlanR w w.heap.size P A A2 n n l q) (k1 : ¬ P < 1601) (k2 : ¬ n = 0) (k3 : ¬ (400 : Int) < (n : Int)) (k5 : ¬ 10000 - (n : Int) < P) :
    Calls Tryd.prog 61 #[plV P A A2 n c n c2] w fun e w' => e = .returned (.int .i64 (plE P l q)) ∧ Below w.heap.size w w' := by
  have i0 := Inv.start hT
  have i1 := i0.alloc (.cells #[.int .i64 P, .slice A n c, .slice A2 n c2] 75)
  have x1 := Blk.new w 75 #[.int .i64 P, .slice A n c, .slice A2 n c2]
  obtain ⟨hl, hq⟩ := hp.len
  have hpp := hp.p; have hm := hp.m
  unfold maxLen at hm
  have b2 : ((n : Int) == 0) = false := by simp [k2]
  have b4 : ((n : Int) != (n : Int)) = false := by simp
  have b5 : ¬ 9999 - (n : Int) + 1 < P := by omega
  have HY := Lib.hid (pl_yes (P := P) (l := l) (q := q) (by omega))
  have HN := Lib.hid (fun k (hk : k < l.length) => pl_no2 (P := P) (l := l) (q := q) (k := k) hk)
  go_enter Tryd.func61, Tryd.ntmps61
  go_wp2_with fail
  generalize w.alloc (.cells #[.int .i64 P, .slice A n c, .slice A2 n c2] 75) = W at *
  go_loopw [36, 4] (fun i _ wr => ∃ k : Nat, i = .int .i64 k ∧ k ≤ n ∧ (∀ j, j < k → (ra_ l j).ok = true ∧ rsOk (q.getD j 0) = true) ∧ Blk wr w.heap.size 75 #[.int .i64 P, .slice A n c, .slice A2 n c2] ∧ Inv w wr) (fun i _ _ => n - (intOf i).toNat)
  case atStart => exact ⟨0, rfl, Nat.zero_le _, fun j hj => absurd hj (Nat.not_lt_zero _), x1, i1⟩
  case round =>
    clear x1 i1
    obtain ⟨k, rfl, hk, hall, hx, hi⟩ := hrel
    have HA := Lib.hid hall; clear hall
    by_cases hlt : k < n
    · have hlt' : (k : Int) < (n : Int) := by omega
      have hlt2 : (k : Int) < (n : Int) := by omega
      obtain ⟨ad, rfl, r1⟩ := (hp.r.below hi.2).row hlt (by omega)
      rw [ra_eq (by omega)] at r1
      have hbd : (ra_ l k).Bd := by rw [← ra_eq (show k < l.length by omega)]; exact hp.r.bd _
      have HNk := Lib.hid (HN.out k (by omega))
      have HSk := Lib.hid (fun (z : (ra_ l k).ok = true ∧ rsOk (q.getD k 0) = true) => (show ∀ j, j < k + 1 → (ra_ l j).ok = true ∧ rsOk (q.getD j 0) = true from fun j hj => by
        by_cases e : j = k
        · subst e; exact z
        · exact HA.out j (by omega)))
      have heq : q[k]'(by omega) = q.getD k 0 := by rw [List.getD_eq_getElem?_getD, List.getElem?_eq_getElem (by omega)]; rfl
      have hcell : ∀ W, Below w.heap.size w W → ∃ bd, A2 = some bd ∧ W.cell? (bd.add k) = some (.int .u8 (q.getD k 0)) := fun W hb => by
        obtain ⟨bd, e, hc⟩ := int_at (hp.e.below hb) (show k < n by omega) (show k < q.length by omega)
        rw [heq] at hc
        exact ⟨bd, e, hc⟩
      generalize ra_ l k = a at *
      generalize q.getD k 0 = z at *
      clear heq
      obtain ⟨bd, rfl, -⟩ := hcell w (Below.refl _ _)
      have hch := fun W hT => chk_any a.b a.c a.d a.p a.q W hT hbd
      have hi2 := hi.alloc (.cells a.A 26)
      have hx2 := hx.alloc (.cells a.A 26)
      have hz2 := Blk.new wr 26 a.A
      cases hok : a.ok with
      | false =>
        have hE := Lib.hid (HNk.out (by rw [hok]; simp))
        have he : rcE a.b a.c a.d a.p a.q = 2 := by unfold rcE; rw [show rcOk a.b a.c a.d a.p a.q = false from hok]; rfl
        rw [he] at hch
        clear hok he HSk HNk hi hx hcell
        go_wp2_with (first | refine wpList_at_g rfl 26 _ rfl w.heap.size _ a.A rfl _ r1 Tryd.underlying26 rfl (by kernel_rfl) ?_ | refine wpList_store_new rfl 26 _ _ rfl rfl wr.heap.size a.A rfl rfl _ #[.int .i32 0, .int .i32 0, .int .i32 0, .int .u16 0, .int .u16 0, .int .u16 0, .int .u16 0, .int .u16 0, .int .u16 0, .int .u16 0, .int .u16 0, .int .u16 0, .int .u16 0, .int .u16 0, .int .u16 0, .int .u16 0, .int .u16 0, .int .u16 0, .int .u16 0] wr rfl rfl rfl (by kernel_rfl) (by kernel_rfl) ?_ | refine wpList_row_g rfl 26 _ rfl _ rfl _ _ _ _ hz2 Tryd.underlying26 rfl (by kernel_rfl) ?_)
        refine (hch _ hi2.1).mono ?_; rintro e w3 ⟨rfl, hb3⟩
        have i3 := hi2.call hb3
        go_wp2_with fail
        go_ret
        exact ⟨by rw [hE.out]; rfl, i3.2⟩
      | true =>
        have he : rcE a.b a.c a.d a.p a.q = 0 := by unfold rcE; rw [show rcOk a.b a.c a.d a.p a.q = true from hok]; rfl
        rw [he] at hch
        clear he hi hx
        go_wp2_with (first | refine wpList_at_g rfl 26 _ rfl w.heap.size _ a.A rfl _ r1 Tryd.underlying26 rfl (by kernel_rfl) ?_ | refine wpList_store_new rfl 26 _ _ rfl rfl wr.heap.size a.A rfl rfl _ #[.int .i32 0, .int .i32 0, .int .i32 0, .int .u16 0, .int .u16 0, .int .u16 0, .int .u16 0, .int .u16 0, .int .u16 0, .int .u16 0, .int .u16 0, .int .u16 0, .int .u16 0, .int .u16 0, .int .u16 0, .int .u16 0, .int .u16 0, .int .u16 0, .int .u16 0] wr rfl rfl rfl (by kernel_rfl) (by kernel_rfl) ?_ | refine wpList_row_g rfl 26 _ rfl _ rfl _ _ _ _ hz2 Tryd.underlying26 rfl (by kernel_rfl) ?_)
        refine (hch _ hi2.1).mono ?_; rintro e w3 ⟨rfl, hb3⟩
        have i3 := hi2.call hb3
        have x3 := hx2.below hb3 hx2.lt
        have ce : w3.cell? ⟨w.heap.size, 2, none⟩ = some (.slice (some bd) n c2) := x3.cell 2
        obtain ⟨bd', e', hc⟩ := hcell w3 i3.2
        obtain rfl := Option.some.inj e'
        by_cases h6 : 6 ≤ z
        · have hE := Lib.hid (HNk.out (by unfold rsOk; simp; omega))
          clear HSk HNk hcell hok
          go_wp2_with fail
          go_ret
          exact ⟨by rw [hE.out]; rfl, i3.2⟩
        · have hN := Lib.hid (HSk.out ⟨hok, by unfold rsOk; simp; omega⟩)
          clear HSk HNk hcell hok
          go_wp2_with fail
          go_roundw
          case rel => exact ⟨k + 1, by go_num, by omega, hN.out, x3, i3⟩
          case measure => simp [intOf]; omega
    · obtain rfl : n = k := by omega
      have hlt' : ¬ (n : Int) < (n : Int) := by omega
      have hE := Lib.hid (HY.out (fun i hi => HA.out i (by omega)))
      go_wp2_with fail
      go_ret
      exact ⟨by rw [hE.out]; rfl, hi.2⟩
set_option maxRecDepth 100000 in
set_option maxHeartbeats 3200000 in
theorem check_any (P : Int) (A A2 : Option Addr) (n c n2 c2 : Nat) (l : List Rc) (q : List Int) (w : World) (hT : Tab w) (hp : PlanR w w.heap.size P A A2 n n2 l q) :
    Calls Tryd.prog 61 #[plV P A A2 n c n2 c2] w fun e w' => e = .returned (.int .i64 (plE P l q)) ∧ Below w.heap.size w w' := by
  have i0 := Inv.start hT
  have i1 := i0.alloc (.cells #[.int .i64 P, .slice A n c, .slice A2 n2 c2] 75)
  have x1 := Blk.new w 75 #[.int .i64 P, .slice A n c, .slice A2 n2 c2]
  obtain ⟨hl, hq⟩ := hp.len
  have hpp := hp.p; have hm := hp.m; have hm2 := hp.m2
  unfold maxLen at hm hm2
  by_cases k1 : P < 1601
  · have hE := Lib.hid (pl_no (P := P) (l := l) (q := q) (by omega))
    go_enter Tryd.func61, Tryd.ntmps61
    go_wp2_with fail
    go_ret
    exact ⟨by rw [hE.out]; rfl, i1.2⟩
  · by_cases k2 : n = 0
    · have hE := Lib.hid (pl_no (P := P) (l := l) (q := q) (by omega))
      have b2 : ((n : Int) == 0) = true := by simp [k2]
      clear k2
      go_enter Tryd.func61, Tryd.ntmps61
      go_wp2_with fail
      go_ret
      exact ⟨by rw [hE.out]; rfl, i1.2⟩
    · have b2 : ((n : Int) == 0) = false := by simp [k2]
      by_cases k3 : (400 : Int) < (n : Int)
      · have hE := Lib.hid (pl_no (P := P) (l := l) (q := q) (by omega))
        go_enter Tryd.func61, Tryd.ntmps61
        go_wp2_with fail
        go_ret
        exact ⟨by rw [hE.out]; rfl, i1.2⟩
      · by_cases k4 : n2 = n
        · obtain rfl : n = n2 := k4.symm
          have b4 : ((n : Int) != (n : Int)) = false := by simp
          by_cases k5 : 10000 - (n : Int) < P
          · have hE := Lib.hid (pl_no (P := P) (l := l) (q := q) (by omega))
            have b5 : 9999 - (n : Int) + 1 < P := by omega
            go_enter Tryd.func61, Tryd.ntmps61
            go_wp2_with fail
            go_ret
            exact ⟨by rw [hE.out]; rfl, i1.2⟩
          · exact check_loop P A A2 n c c2 l q w hT hp k1 k2 k3 k5
        · have hE := Lib.hid (pl_no (P := P) (l := l) (q := q) (by omega))
          have b4 : ((n2 : Int) != (n : Int)) = true := by simp; omega
          go_enter Tryd.func61, Tryd.ntmps61
          go_wp2_with fail
          go_ret
          exact ⟨by rw [hE.out]; rfl, i1.2⟩
end Go.Proofs.YtefcjccapekjdaaDoor.Sq
