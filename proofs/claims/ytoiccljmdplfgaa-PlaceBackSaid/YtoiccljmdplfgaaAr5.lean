/-
  AREAS: edge and inside of any area; the zone of a point; whether areas are few: walked.
-/
import Derived.Test.YtoiccljmdplfgaaAr4
namespace Go.Proofs.Ytoiccljmdplfgaa.Ar
open Go.ChangeShapes Go.WideShapes Go.ChangeAt Go.RowKit Go.Shelf
open Go.Proofs.Ytoiccljmdplfgaa
open Go.Proofs.Ytoiccljmdplfgaa.Wd
open Go.Proofs.Ytoiccljmdplfgaa.Pl
open Go.Proofs.Ytoiccljmdplfgaa.Nv
set_option linter.unusedVariables false
theorem Pts.more {w : World} {B B' n : Nat} {A : Option Addr} {l : List P2} (h : Pts w B A n l) (hb : B ≤ B') : Pts w B' A n l := ⟨h.1, h.2.more hb⟩
set_option maxRecDepth 20000 in
set_option maxHeartbeats 1600000 in
theorem Edge_any (z : ByteArray) (A : Option Addr) (n c : Nat) (l : List P2) (p : P2) (w : World) (hz : z.size ≤ maxLen) (hR : Pts w w.heap.size A n l) (hm : n ≤ maxLen) :
    Calls Try.prog 25 #[arV z A n c, p.V] w fun e w' => e = .returned (.bool (rtB z l p && edB l p)) ∧ Below w.heap.size w w' := by
  have i1 := ((BI.start w).alloc (.cells (arA z A n c) 34)).alloc (.cells p.A 23)
  have x1 := (Blk.new w 34 (arA z A n c)).alloc (.cells p.A 23)
  have y1 := blk_at (w.alloc (.cells (arA z A n c) 34)) 23 p.A (sz1 _ _ rfl)
  have hrt := fun W (i : BI w W) => aright_any z A n c l p W hz (Pts.more (hR.below i.b) i.b.size) hm
  cases hr : rtB z l p
  · rw [hr] at hrt
    clear hr
    go_enter Try.func25, Try.ntmps25
    go_wp2_with (first | refine wpList_row_g rfl 34 _ rfl _ rfl _ _ _ _ x1 Try.underlying34 rfl (by kernel_rfl) ?_ | refine wpList_row_g rfl 23 _ rfl _ rfl _ _ _ _ y1 Try.underlying23 rfl (by kernel_rfl) ?_)
    refine (hrt _ i1).mono ?_; rintro e w2 ⟨rfl, hb2⟩
    have i2 := i1.call hb2
    go_wp2_with fail
    go_ret
    exact ⟨rfl, i2⟩
  · rw [hr] at hrt
    have hn : n ≤ 1100 := by
      unfold rtB at hr
      rw [Bool.and_eq_true] at hr
      have := (ar_iff.1 hr.2).2.1; have := hR.1; omega
    have hed := fun W (i : BI w W) => edge_any z A n c l p W (Pts.more (hR.below i.b) i.b.size) hn
    clear hr
    go_enter Try.func25, Try.ntmps25
    go_wp2_with (first | refine wpList_row_g rfl 34 _ rfl _ rfl _ _ _ _ x1 Try.underlying34 rfl (by kernel_rfl) ?_ | refine wpList_row_g rfl 23 _ rfl _ rfl _ _ _ _ y1 Try.underlying23 rfl (by kernel_rfl) ?_)
    refine (hrt _ i1).mono ?_; rintro e w2 ⟨rfl, hb2⟩
    have i2 := i1.call hb2
    have x2 := x1.below hb2 x1.lt
    have y2 := y1.below hb2 y1.lt
    clear i1 x1 y1 hb2
    go_wp2_with (first | refine wpList_row_g rfl 34 _ rfl _ rfl _ _ _ _ x2 Try.underlying34 rfl (by kernel_rfl) ?_ | refine wpList_row_g rfl 23 _ rfl _ rfl _ _ _ _ y2 Try.underlying23 rfl (by kernel_rfl) ?_)
    refine (hed _ i2).mono ?_; rintro e w3 ⟨rfl, hb3⟩
    have i3 := i2.call hb3
    go_wp2_with fail
    go_ret
    exact ⟨rfl, i3⟩
set_option maxRecDepth 20000 in
set_option maxHeartbeats 1600000 in
theorem Inside_any (z : ByteArray) (A : Option Addr) (n c : Nat) (l : List P2) (p : P2) (w : World) (hz : z.size ≤ maxLen) (hR : Pts w w.heap.size A n l) (hm : n ≤ maxLen) :
    Calls Try.prog 27 #[arV z A n c, p.V] w fun e w' => e = .returned (.bool (rtB z l p && inB l p)) ∧ Below w.heap.size w w' := by
  have i1 := ((BI.start w).alloc (.cells (arA z A n c) 34)).alloc (.cells p.A 23)
  have x1 := (Blk.new w 34 (arA z A n c)).alloc (.cells p.A 23)
  have y1 := blk_at (w.alloc (.cells (arA z A n c) 34)) 23 p.A (sz1 _ _ rfl)
  have hrt := fun W (i : BI w W) => aright_any z A n c l p W hz (Pts.more (hR.below i.b) i.b.size) hm
  cases hr : rtB z l p
  · rw [hr] at hrt
    clear hr
    go_enter Try.func27, Try.ntmps27
    go_wp2_with (first | refine wpList_row_g rfl 34 _ rfl _ rfl _ _ _ _ x1 Try.underlying34 rfl (by kernel_rfl) ?_ | refine wpList_row_g rfl 23 _ rfl _ rfl _ _ _ _ y1 Try.underlying23 rfl (by kernel_rfl) ?_)
    refine (hrt _ i1).mono ?_; rintro e w2 ⟨rfl, hb2⟩
    have i2 := i1.call hb2
    go_wp2_with fail
    go_ret
    exact ⟨rfl, i2⟩
  · rw [hr] at hrt
    have hn : n ≤ 1100 := by
      unfold rtB at hr
      rw [Bool.and_eq_true] at hr
      have := (ar_iff.1 hr.2).2.1; have := hR.1; omega
    have hed := fun W (i : BI w W) => inside_any z A n c l p W (Pts.more (hR.below i.b) i.b.size) hn
    clear hr
    go_enter Try.func27, Try.ntmps27
    go_wp2_with (first | refine wpList_row_g rfl 34 _ rfl _ rfl _ _ _ _ x1 Try.underlying34 rfl (by kernel_rfl) ?_ | refine wpList_row_g rfl 23 _ rfl _ rfl _ _ _ _ y1 Try.underlying23 rfl (by kernel_rfl) ?_)
    refine (hrt _ i1).mono ?_; rintro e w2 ⟨rfl, hb2⟩
    have i2 := i1.call hb2
    have x2 := x1.below hb2 x1.lt
    have y2 := y1.below hb2 y1.lt
    clear i1 x1 y1 hb2
    go_wp2_with (first | refine wpList_row_g rfl 34 _ rfl _ rfl _ _ _ _ x2 Try.underlying34 rfl (by kernel_rfl) ?_ | refine wpList_row_g rfl 23 _ rfl _ rfl _ _ _ _ y2 Try.underlying23 rfl (by kernel_rfl) ?_)
    refine (hed _ i2).mono ?_; rintro e w3 ⟨rfl, hb3⟩
    have i3 := i2.call hb3
    go_wp2_with fail
    go_ret
    exact ⟨rfl, i3⟩
/-- an area in a list -/
structure Ae where
  z : ByteArray
  A : Option Addr
  n : Nat
  c : Nat
  l : List P2
abbrev Ae.C (a : Ae) : Array Value := arA a.z a.A a.n a.c
abbrev Ae.V (a : Ae) : Value := arV a.z a.A a.n a.c
abbrev Ae.nil : Ae := ⟨ByteArray.empty, none, 0, 0, []⟩
def flatA : List Ae → List Value
  | [] => []
  | a :: l => a.C.toList ++ flatA l
theorem flatA_len (l : List Ae) : (flatA l).length = l.length * 2 := by
  induction l with
  | nil => rfl
  | cons a l ih => show (a.C.toList ++ flatA l).length = _; rw [List.length_append, ih]; show 2 + l.length * 2 = (l.length + 1) * 2; omega
abbrev ae_ (l : List Ae) (k : Nat) : Ae := l.getD k Ae.nil
theorem flatA_at : ∀ (l : List Ae) (k j : Nat), k < l.length → j < 2 → (flatA l)[k * 2 + j]? = (ae_ l k).C[j]?
  | [], k, j, h, _ => absurd h (Nat.not_lt_zero _)
  | m :: t, 0, j, _, hj => by
    show (m.C.toList ++ flatA t)[0 * 2 + j]? = _
    rw [List.getElem?_append_left (by show _ < 2; omega), Nat.zero_mul, Nat.zero_add, Array.getElem?_toList]; rfl
  | m :: t, k + 1, j, h, hj => by
    show (m.C.toList ++ flatA t)[(k + 1) * 2 + j]? = _
    rw [List.getElem?_append_right (by show 2 ≤ _; omega)]
    show (flatA t)[(k + 1) * 2 + j - 2]? = _
    rw [show (k + 1) * 2 + j - 2 = k * 2 + j by omega]
    exact flatA_at t k j (by simpa using h) hj
/-- a slice of areas that reads as a list of them -/
structure Ars (w : World) (B : Nat) (A : Option Addr) (n : Nat) (L : List Ae) : Prop where
  len : L.length = n
  r : Reads w B 2 A n (flatA L)
  p : ∀ a ∈ L, Pts w B a.A a.n a.l ∧ a.z.size ≤ maxLen ∧ a.n ≤ maxLen
theorem Ars.below {w w' : World} {B n : Nat} {A : Option Addr} {L : List Ae} (h : Ars w B A n L) (hb : Below B w w') : Ars w' B A n L := ⟨h.len, h.r.below hb, fun a ha => ⟨(h.p a ha).1.below hb, (h.p a ha).2⟩⟩
theorem Ars.more {w : World} {B B' n : Nat} {A : Option Addr} {L : List Ae} (h : Ars w B A n L) (hb : B ≤ B') : Ars w B' A n L := ⟨h.len, h.r.more hb, fun a ha => ⟨Pts.more (h.p a ha).1 hb, (h.p a ha).2⟩⟩
theorem Ars.row {w : World} {B n k : Nat} {A : Option Addr} {L : List Ae} (h : Ars w B A n L) (hk : k < n) : ∃ ad, A = some ad ∧ Row w B (ad.add (k * 2)) (ae_ L k).C := by
  obtain ⟨ad, rfl, hb, hc⟩ := h.r.2 (by omega)
  refine ⟨ad, rfl, by rw [block_of_add]; exact hb, fun j v hv => ?_⟩
  rw [add_of_add]
  have hj : j < 2 := by
    rcases Nat.lt_or_ge j 2 with g | g
    · exact g
    · rw [Array.getElem?_eq_none (by show 2 ≤ j; omega)] at hv; cases hv
  refine hc _ _ ?_
  rw [flatA_at L k j (by rw [h.len]; omega) hj]; exact hv
theorem ae_mem {L : List Ae} {k : Nat} (h : k < L.length) : ae_ L k ∈ L := by
  show L.getD k _ ∈ L; rw [List.getD_eq_getElem?_getD, List.getElem?_eq_getElem h]; exact List.getElem_mem h
theorem ae_take {L : List Ae} {k : Nat} (h : k < L.length) : L.take (k + 1) = L.take k ++ [ae_ L k] := by
  rw [List.take_succ_eq_append_getElem h]; congr 2
  show _ = L.getD k _; rw [List.getD_eq_getElem?_getD, List.getElem?_eq_getElem h]; rfl
def smV (L : List Ae) : Bool := decide (L.length ≤ 20) && L.all fun a => decide (a.n ≤ 40 ∧ a.z.size ≤ 1000)
theorem sm_no {L : List Ae} {k : Nat} (hk : k < L.length) (h : ¬ ((ae_ L k).n ≤ 40 ∧ (ae_ L k).z.size ≤ 1000)) : smV L = false := by
  unfold smV
  rw [show (L.all fun a => decide (a.n ≤ 40 ∧ a.z.size ≤ 1000)) = false from List.all_eq_false.2 ⟨_, ae_mem hk, by rw [decide_eq_false h]; decide⟩, Bool.and_false]
theorem sm_20 {L : List Ae} (h : 20 < L.length) : smV L = false := by unfold smV; rw [decide_eq_false (by omega)]; rfl
theorem sm_yes {L : List Ae} (h : L.length ≤ 20) (h2 : ∀ k, k < L.length → (ae_ L k).n ≤ 40 ∧ (ae_ L k).z.size ≤ 1000) : smV L = true := by
  unfold smV
  rw [decide_eq_true h, Bool.true_and, List.all_eq_true]
  intro a ha
  obtain ⟨k, hk, e⟩ := List.getElem_of_mem ha
  have := h2 k hk
  rw [show ae_ L k = a by show L.getD k _ = _; rw [List.getD_eq_getElem?_getD, List.getElem?_eq_getElem hk, ← e]; rfl] at this
  exact decide_eq_true this
set_option maxRecDepth 20000 in
set_option maxHeartbeats 3200000 in
theorem small_any (A : Option Addr) (n c : Nat) (L : List Ae) (w : World) (hR : Ars w w.heap.size A n L) (hm : n ≤ maxLen) :
    Calls Try.prog 19 #[.slice A n c] w fun e w' => e = .returned (.int .i64 (if smV L = true then 1 else 0)) ∧ Below w.heap.size w w' := by
  have hll := hR.len
  unfold maxLen at hm
  obtain ⟨E, hE⟩ : ∃ E : Int, (if smV L = true then (1 : Int) else 0) = E := ⟨_, rfl⟩
  have HE1 := Lib.hid (fun (h : smV L = true) => (show E = 1 by rw [← hE, h]; rfl))
  have HE0 := Lib.hid (fun (h : smV L = false) => (show E = 0 by rw [← hE, h]; rfl))
  rw [hE]; clear hE
  go_enter Try.func19, Try.ntmps19
  go_wp2_with fail
  go_loopw [7] (fun i w' => ∃ k : Nat, i = .int .i64 k ∧ k ≤ n ∧ k ≤ 20 ∧ (∀ j, j < k → (ae_ L j).n ≤ 40 ∧ (ae_ L j).z.size ≤ 1000) ∧ BI w w') (fun i _ => n - (intOf i).toNat)
  case atStart => exact ⟨0, rfl, Nat.zero_le _, Nat.zero_le _, fun _ h => absurd h (Nat.not_lt_zero _), BI.start w⟩
  case round =>
    obtain ⟨k, rfl, hk, hk20, hall, hb⟩ := hrel
    have HA := Lib.hid hall; clear hall
    by_cases hlt : k < n
    · have hlt' : (k : Int) < (n : Int) := by omega
      obtain ⟨ad, rfl, hrow⟩ := (hR.below hb.b).row hlt
      have hbd := (hR.p _ (ae_mem (show k < L.length by omega))).2
      have HN := Lib.hid (fun h => HE0.out (sm_no (L := L) (k := k) (by omega) h))
      have H20 := Lib.hid (fun h => HE0.out (sm_20 (L := L) h))
      have HS := Lib.hid (fun (q : (ae_ L k).n ≤ 40 ∧ (ae_ L k).z.size ≤ 1000) => (show ∀ j, j < k + 1 → (ae_ L j).n ≤ 40 ∧ (ae_ L j).z.size ≤ 1000 from fun j hj => by
        by_cases e : j = k
        · subst e; exact q
        · exact HA.out j (by omega)))
      generalize ae_ L k = a at *
      unfold maxLen at hbd
      obtain ⟨z, A', n', c', l'⟩ := a
      simp only at hbd HN HS hrow
      have hb1 := hb.alloc (.cells (arA z A' n' c') 34)
      have x1 := Blk.new wr 34 (arA z A' n' c')
      have d0 : (wr.alloc (.cells (arA z A' n' c') 34)).cell? ⟨wr.heap.size, 0, none⟩ = some (.string z) := x1.cell 0
      have d1 : (wr.alloc (.cells (arA z A' n' c') 34)).cell? ⟨wr.heap.size, 1, none⟩ = some (.slice A' n' c') := x1.cell 1
      by_cases g0 : k = 20
      · have hE := Lib.hid (H20.out (by omega))
        have gb : ((k : Int) == 20) = true := by simp [g0]
        clear HN HS HA g0 H20
        go_wp2_with (first | refine wpList_at_g rfl 34 _ rfl w.heap.size _ (arA z A' n' c') rfl _ hrow Try.underlying34 rfl (by kernel_rfl) ?_ | refine wpList_store_new rfl 34 _ _ rfl rfl wr.heap.size (arA z A' n' c') rfl rfl _ #[.string ByteArray.empty, .slice none 0 0] wr rfl rfl rfl (by kernel_rfl) (by kernel_rfl) ?_)
        go_ret
        exact ⟨by rw [hE.out]; rfl, hb1⟩
      · have gb : ((k : Int) == 20) = false := by simp; omega
        by_cases g1 : (40 : Int) < (n' : Int)
        · have hE := Lib.hid (HN.out (by omega))
          clear HN HS HA g0 H20
          go_wp2_with (first | refine wpList_at_g rfl 34 _ rfl w.heap.size _ (arA z A' n' c') rfl _ hrow Try.underlying34 rfl (by kernel_rfl) ?_ | refine wpList_store_new rfl 34 _ _ rfl rfl wr.heap.size (arA z A' n' c') rfl rfl _ #[.string ByteArray.empty, .slice none 0 0] wr rfl rfl rfl (by kernel_rfl) (by kernel_rfl) ?_)
          go_ret
          exact ⟨by rw [hE.out]; rfl, hb1⟩
        · by_cases g2 : (1000 : Int) < (z.size : Int)
          · have hE := Lib.hid (HN.out (by omega))
            clear HN HS HA g0 H20
            go_wp2_with (first | refine wpList_at_g rfl 34 _ rfl w.heap.size _ (arA z A' n' c') rfl _ hrow Try.underlying34 rfl (by kernel_rfl) ?_ | refine wpList_store_new rfl 34 _ _ rfl rfl wr.heap.size (arA z A' n' c') rfl rfl _ #[.string ByteArray.empty, .slice none 0 0] wr rfl rfl rfl (by kernel_rfl) (by kernel_rfl) ?_)
            go_ret
            exact ⟨by rw [hE.out]; rfl, hb1⟩
          · have hN := Lib.hid (HS.out (by omega))
            have hk21 : k + 1 ≤ 20 := by omega
            clear HN HS HA g0 H20
            go_wp2_with (first | refine wpList_at_g rfl 34 _ rfl w.heap.size _ (arA z A' n' c') rfl _ hrow Try.underlying34 rfl (by kernel_rfl) ?_ | refine wpList_store_new rfl 34 _ _ rfl rfl wr.heap.size (arA z A' n' c') rfl rfl _ #[.string ByteArray.empty, .slice none 0 0] wr rfl rfl rfl (by kernel_rfl) (by kernel_rfl) ?_)
            go_roundw
            case rel => exact ⟨k + 1, by go_num, by omega, hk21, hN.out, hb1⟩
            case measure => simp [intOf]; omega
    · obtain rfl : k = n := by omega
      have hlt' : ¬ (k : Int) < (k : Int) := by omega
      have hE := Lib.hid (HE1.out (sm_yes (by omega) (fun j hj => HA.out j (by omega))))
      go_wp2_with fail
      go_ret
      exact ⟨by rw [hE.out]; rfl, hb⟩
def alB (L : List Ae) : Bool := L.all fun a => arOk a.z a.l
/-- the first of them that has the point -/
def fiA (L : List Ae) (p : P2) : Option Ae := L.find? fun a => inB a.l p
def zoS (L : List Ae) (p : P2) : ByteArray := if p.ok && alB L then (match fiA L p with | some a => a.z | none => ByteArray.empty) else ByteArray.empty
def zoE (L : List Ae) (p : P2) : Int := if p.ok && alB L then (match fiA L p with | some a => 0 | none => 3) else 2
theorem zo_no {L : List Ae} {p : P2} (h : (p.ok && alB L) = false) : zoS L p = ByteArray.empty ∧ zoE L p = 2 := by unfold zoS zoE; rw [h]; exact ⟨rfl, rfl⟩
theorem zo_none {L : List Ae} {p : P2} (h : (p.ok && alB L) = true) (h2 : fiA L p = none) : zoS L p = ByteArray.empty ∧ zoE L p = 3 := by unfold zoS zoE; rw [h, h2]; exact ⟨rfl, rfl⟩
theorem zo_some {L : List Ae} {p : P2} {a : Ae} (h : (p.ok && alB L) = true) (h2 : fiA L p = some a) : zoS L p = a.z ∧ zoE L p = 0 := by unfold zoS zoE; rw [h, h2]; exact ⟨rfl, rfl⟩
theorem al_no {L : List Ae} {k : Nat} (hk : k < L.length) (h : arOk (ae_ L k).z (ae_ L k).l = false) : alB L = false := by
  unfold alB; rw [List.all_eq_false]; exact ⟨_, ae_mem hk, by rw [h]; decide⟩
theorem al_take {L : List Ae} {k : Nat} (h : k < L.length) : alB (L.take (k + 1)) = (alB (L.take k) && arOk (ae_ L k).z (ae_ L k).l) := by
  unfold alB; rw [ae_take h, List.all_append]; simp
theorem fi_take {L : List Ae} {p : P2} {k : Nat} (h : k < L.length) (h0 : fiA (L.take k) p = none) : (inB (ae_ L k).l p = false → fiA (L.take (k + 1)) p = none) ∧ (inB (ae_ L k).l p = true → fiA L p = some (ae_ L k)) := by
  unfold fiA at *
  refine ⟨fun h1 => ?_, fun h1 => ?_⟩
  · rw [ae_take h, List.find?_append, h0, List.find?_cons, h1]; rfl
  · have : L = L.take k ++ (ae_ L k :: L.drop (k + 1)) := by
      conv => lhs; rw [← List.take_append_drop k L, List.drop_eq_getElem_cons h]
      congr 2
      show _ = L.getD k _; rw [List.getD_eq_getElem?_getD, List.getElem?_eq_getElem h]; rfl
    have e : List.find? (fun a => inB a.l p) L = List.find? (fun a => inB a.l p) (L.take k ++ (ae_ L k :: L.drop (k + 1))) := congrArg _ this
    rw [e, List.find?_append, h0, List.find?_cons, h1]; rfl
set_option maxRecDepth 20000 in
set_option maxHeartbeats 6400000 in
theorem zone_any (A : Option Addr) (n c : Nat) (L : List Ae) (p : P2) (w : World) (hR : Ars w w.heap.size A n L) (hm : n ≤ maxLen) :
    Calls Try.prog 21 #[.slice A n c, p.V] w fun e w' => e = .returned (.tuple #[.string (zoS L p), .int .i64 (zoE L p)]) ∧ Below w.heap.size w w' := by
  have hll := hR.len
  unfold maxLen at hm
  have i1 := (BI.start w).alloc (.cells p.A 23)
  have y1 := Blk.new w 23 p.A
  cases hp : p.ok
  · obtain ⟨z1, z2⟩ := zo_no (L := L) (p := p) (by rw [hp]; rfl)
    have hv : (chkV p != 0) = true := by unfold chkV; rw [hp]; rfl
    rw [z1, z2]
    clear hp z1 z2
    go_enter Try.func21, Try.ntmps21
    go_wp2_with (first | refine wpList_row_g rfl 23 _ rfl _ rfl _ _ _ _ y1 Try.underlying23 rfl (by kernel_rfl) ?_)
    refine (check_any p _).mono ?_; rintro e w2 ⟨rfl, hb2⟩
    have i2 := i1.call hb2
    go_wp2_with fail
    go_ret2
    exact ⟨rfl, i2⟩
  have hv : (chkV p != 0) = false := by unfold chkV; rw [hp]; rfl
  have HNo := Lib.hid (fun (h : alB L = false) => zo_no (L := L) (p := p) (by rw [hp, h]; rfl))
  have HNone := Lib.hid (fun (h : alB L = true) h2 => zo_none (L := L) (p := p) (by rw [hp, h]; rfl) h2)
  have HSome := Lib.hid (fun (h : alB L = true) (a : Ae) h2 => zo_some (L := L) (p := p) (a := a) (by rw [hp, h]; rfl) h2)
  clear hp
  generalize zoS L p = ZS at *
  generalize zoE L p = ZE at *
  go_enter Try.func21, Try.ntmps21
  go_wp2_with (first | refine wpList_row_g rfl 23 _ rfl _ rfl _ _ _ _ y1 Try.underlying23 rfl (by kernel_rfl) ?_)
  refine (check_any p _).mono ?_; rintro e w2 ⟨rfl, hb2⟩
  have i2 := i1.call hb2
  have y2 := y1.below hb2 y1.lt
  clear i1 y1 hb2
  go_wp2_with fail
  go_loopw [15] (fun i w' => ∃ k : Nat, i = .int .i64 k ∧ k ≤ n ∧ alB (L.take k) = true ∧ Blk w' w.heap.size 23 p.A ∧ BI w w') (fun i _ => n - (intOf i).toNat)
  case atStart => exact ⟨0, rfl, Nat.zero_le _, by simp [alB], y2, i2⟩
  case round =>
    clear y2 i2
    obtain ⟨k, rfl, hk, hall, hy, hb⟩ := hrel
    by_cases hlt : k < n
    · have hlt' : (k : Int) < (n : Int) := by omega
      obtain ⟨ad, rfl, hrow⟩ := (hR.below hb.b).row hlt
      have hbd := (hR.p _ (ae_mem (show k < L.length by omega)))
      have HT := Lib.hid (al_take (L := L) (k := k) (by omega))
      have HA := Lib.hid hall
      have HN := Lib.hid (fun h => HNo.out (al_no (L := L) (k := k) (by omega) h))
      clear hall
      generalize ae_ L k = a at *
      have hb1 := hb.alloc (.cells a.C 34)
      have x1 := Blk.new wr 34 a.C
      have hy1 := hy.alloc (.cells a.C 34)
      have hck := acheck_any a.z a.A a.n a.c w.heap.size a.l (wr.alloc (.cells a.C 34)) hbd.2.1 (hbd.1.below hb1.b) hb1.b.size hbd.2.2
      go_wp2_with (first | refine wpList_at_g rfl 34 _ rfl w.heap.size _ a.C rfl _ hrow Try.underlying34 rfl (by kernel_rfl) ?_ | refine wpList_store_new rfl 34 _ _ rfl rfl wr.heap.size a.C rfl rfl _ #[.string ByteArray.empty, .slice none 0 0] wr rfl rfl rfl (by kernel_rfl) (by kernel_rfl) ?_ | refine wpList_row_g rfl 34 _ rfl _ rfl _ _ _ _ x1 Try.underlying34 rfl (by kernel_rfl) ?_)
      refine hck.mono ?_; rintro e w3 ⟨rfl, hb3⟩
      have i3 := hb1.call hb3
      have y3 := hy1.below hb3 hy1.lt
      clear hb1 x1 hy1 hck hb3 hrow
      cases ha : arOk a.z a.l
      · have hv2 : (arE a.z a.l != 0) = true := by rw [arE_no ha]; rfl
        obtain ⟨e1, e2⟩ := HN.out ha
        have E1 := Lib.hid e1; have E2 := Lib.hid e2
        clear ha e1 e2
        go_wp2_with fail
        go_ret2
        exact ⟨by rw [E1.out, E2.out]; rfl, i3⟩
      · have hv2 : (arE a.z a.l != 0) = false := by rw [arE_yes ha]; rfl
        have HA2 := Lib.hid (show alB (L.take (k + 1)) = true by rw [HT.out, HA.out, ha]; rfl)
        clear ha
        go_wp2_with fail
        go_roundw
        case rel => exact ⟨k + 1, by go_num, by omega, HA2.out, y3, i3⟩
        case measure => simp [intOf]; omega
    · obtain rfl : k = n := by omega
      have hlt' : ¬ (k : Int) < (k : Int) := by omega
      rw [List.take_of_length_le (by omega)] at hall
      have HAL := Lib.hid hall
      clear hall
      go_wp2_with fail
      go_loopw [25] (fun i w' => ∃ j : Nat, i = .int .i64 j ∧ j ≤ k ∧ fiA (L.take j) p = none ∧ Blk w' w.heap.size 23 p.A ∧ BI w w') (fun i _ => k - (intOf i).toNat)
      case atStart => exact ⟨0, rfl, Nat.zero_le _, by simp [fiA], hy, hb⟩
      case round =>
        clear hy hb
        obtain ⟨j, rfl, hj, hf, hy, hb⟩ := hrel
        by_cases hlt : j < k
        · have hlt' : (j : Int) < (k : Int) := by omega
          obtain ⟨ad, rfl, hrow⟩ := (hR.below hb.b).row hlt
          have hbd := (hR.p _ (ae_mem (show j < L.length by omega)))
          have hok : arOk (ae_ L j).z (ae_ L j).l = true := by
            have := HAL.out; unfold alB at this
            exact List.all_eq_true.1 this _ (ae_mem (by omega))
          have hFT := fi_take (L := L) (p := p) (k := j) (by omega) hf
          have HF1 := Lib.hid hFT.1; have HF2 := Lib.hid hFT.2
          clear hFT hf
          generalize ae_ L j = a at *
          have hn : a.n ≤ 1100 := by have := (ar_iff.1 hok).2.1; have := hbd.1.1; omega
          have hb1 := hb.alloc (.cells a.C 34)
          have x1 := Blk.new wr 34 a.C
          have hy1 := hy.alloc (.cells a.C 34)
          have hin := inside_any a.z a.A a.n a.c a.l p (wr.alloc (.cells a.C 34)) (Pts.more (hbd.1.below hb1.b) hb1.b.size) hn
          clear hok
          cases hi : inB a.l p
          · rw [hi] at hin
            have HF := Lib.hid (HF1.out hi)
            clear hi HF1 HF2
            go_wp2_with (first | refine wpList_at_g rfl 34 _ rfl w.heap.size _ a.C rfl _ hrow Try.underlying34 rfl (by kernel_rfl) ?_ | refine wpList_store_new rfl 34 _ _ rfl rfl wr.heap.size a.C rfl rfl _ #[.string ByteArray.empty, .slice none 0 0] wr rfl rfl rfl (by kernel_rfl) (by kernel_rfl) ?_ | refine wpList_row_g rfl 34 _ rfl _ rfl _ _ _ _ x1 Try.underlying34 rfl (by kernel_rfl) ?_ | refine wpList_row_g rfl 23 _ rfl _ rfl _ _ _ _ hy1 Try.underlying23 rfl (by kernel_rfl) ?_)
            refine hin.mono ?_; rintro e w3 ⟨rfl, hb3⟩
            have i3 := hb1.call hb3
            have y3 := hy1.below hb3 hy1.lt
            clear hb1 x1 hy1 hin hb3 hrow
            go_wp2_with fail
            go_roundw
            case rel => exact ⟨j + 1, by go_num, by omega, HF.out, y3, i3⟩
            case measure => simp [intOf]; omega
          · rw [hi] at hin
            obtain ⟨e1, e2⟩ := HSome.out HAL.out a (HF2.out hi)
            have E1 := Lib.hid e1; have E2 := Lib.hid e2
            clear hi HF1 HF2 e1 e2
            go_wp2_with (first | refine wpList_at_g rfl 34 _ rfl w.heap.size _ a.C rfl _ hrow Try.underlying34 rfl (by kernel_rfl) ?_ | refine wpList_store_new rfl 34 _ _ rfl rfl wr.heap.size a.C rfl rfl _ #[.string ByteArray.empty, .slice none 0 0] wr rfl rfl rfl (by kernel_rfl) (by kernel_rfl) ?_ | refine wpList_row_g rfl 34 _ rfl _ rfl _ _ _ _ x1 Try.underlying34 rfl (by kernel_rfl) ?_ | refine wpList_row_g rfl 23 _ rfl _ rfl _ _ _ _ hy1 Try.underlying23 rfl (by kernel_rfl) ?_)
            refine hin.mono ?_; rintro e w3 ⟨rfl, hb3⟩
            have i3 := hb1.call hb3
            have d0 : w3.cell? ⟨wr.heap.size, 0, none⟩ = some (.string a.z) := (x1.below hb3 x1.lt).cell 0
            go_wp2_with fail
            go_ret2
            exact ⟨by rw [E1.out, E2.out]; rfl, i3⟩
        · obtain rfl : j = k := by omega
          have hlt' : ¬ (j : Int) < (j : Int) := by omega
          rw [List.take_of_length_le (by omega)] at hf
          obtain ⟨e1, e2⟩ := HNone.out HAL.out hf
          have E1 := Lib.hid e1; have E2 := Lib.hid e2
          clear hf e1 e2
          go_wp2_with fail
          go_ret2
          exact ⟨by rw [E1.out, E2.out]; rfl, hb⟩
end Go.Proofs.Ytoiccljmdplfgaa.Ar
