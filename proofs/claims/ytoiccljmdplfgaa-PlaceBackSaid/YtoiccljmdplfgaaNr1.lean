/-
  PLACES: what is a territory, which are right; a point besides: walked.
-/
import Derived.Test.YtoiccljmdplfgaaArI
import Derived.Test.YtoiccljmdplfgaaNmV
import Derived.Test.YtoiccljmdplfgaaPl2
namespace Go.Proofs.Ytoiccljmdplfgaa.Nr
open Go.ChangeShapes Go.WideShapes Go.ChangeAt Go.RowKit Go.Shelf
open Go.Proofs.Ytoiccljmdplfgaa
open Go.Proofs.Ytoiccljmdplfgaa.Wd
open Go.Proofs.Ytoiccljmdplfgaa.Pl
open Go.Proofs.Ytoiccljmdplfgaa.Nv
set_option linter.unusedVariables false
structure Pc where
  t : ByteArray
  p : P2
  z : ByteArray
abbrev Pc.C (a : Pc) : Array Value := #[.string a.t, .int .i64 a.p.la, .int .i64 a.p.lo, .string a.z]
abbrev Pc.V (a : Pc) : Value := .agg #[.string a.t, .int .i64 a.p.la, .int .i64 a.p.lo, .string a.z]
abbrev Pc.nil : Pc := ⟨ByteArray.empty, ⟨0, 0⟩, ByteArray.empty⟩
abbrev ZP : Array Value := #[.string ByteArray.empty, .int .i64 0, .int .i64 0, .string ByteArray.empty]
def flatC : List Pc → List Value
  | [] => []
  | a :: l => a.C.toList ++ flatC l
theorem flatC_len (l : List Pc) : (flatC l).length = l.length * 4 := by
  induction l with
  | nil => rfl
  | cons a l ih => show (a.C.toList ++ flatC l).length = _; rw [List.length_append, ih]; show 4 + l.length * 4 = (l.length + 1) * 4; omega
abbrev pc_ (l : List Pc) (k : Nat) : Pc := l.getD k Pc.nil
theorem flatC_at : ∀ (l : List Pc) (k j : Nat), k < l.length → j < 4 → (flatC l)[k * 4 + j]? = (pc_ l k).C[j]?
  | [], k, j, h, _ => absurd h (Nat.not_lt_zero _)
  | m :: t, 0, j, _, hj => by
    show (m.C.toList ++ flatC t)[0 * 4 + j]? = _
    rw [List.getElem?_append_left (by show _ < 4; omega), Nat.zero_mul, Nat.zero_add, Array.getElem?_toList]; rfl
  | m :: t, k + 1, j, h, hj => by
    show (m.C.toList ++ flatC t)[(k + 1) * 4 + j]? = _
    rw [List.getElem?_append_right (by show 4 ≤ _; omega)]
    show (flatC t)[(k + 1) * 4 + j - 4]? = _
    rw [show (k + 1) * 4 + j - 4 = k * 4 + j by omega]
    exact flatC_at t k j (by simpa using h) hj
/-- a slice of places that reads as a list of them -/
structure Pcs (w : World) (B : Nat) (A : Option Addr) (n : Nat) (L : List Pc) : Prop where
  len : L.length = n
  r : Reads w B 4 A n (flatC L)
  p : ∀ a ∈ L, a.t.size ≤ maxLen ∧ a.z.size ≤ maxLen
theorem Pcs.below {w w' : World} {B n : Nat} {A : Option Addr} {L : List Pc} (h : Pcs w B A n L) (hb : Below B w w') : Pcs w' B A n L := ⟨h.len, h.r.below hb, h.p⟩
theorem Pcs.more {w : World} {B B' n : Nat} {A : Option Addr} {L : List Pc} (h : Pcs w B A n L) (hb : B ≤ B') : Pcs w B' A n L := ⟨h.len, h.r.more hb, h.p⟩
theorem Pcs.row {w : World} {B n k : Nat} {A : Option Addr} {L : List Pc} (h : Pcs w B A n L) (hk : k < n) : ∃ ad, A = some ad ∧ Row w B (ad.add (k * 4)) (pc_ L k).C := by
  obtain ⟨ad, rfl, hb, hc⟩ := h.r.2 (by omega)
  refine ⟨ad, rfl, by rw [block_of_add]; exact hb, fun j v hv => ?_⟩
  rw [add_of_add]
  have hj : j < 4 := by
    rcases Nat.lt_or_ge j 4 with g | g
    · exact g
    · rw [Array.getElem?_eq_none (by show 4 ≤ j; omega)] at hv; cases hv
  refine hc _ _ ?_
  rw [flatC_at L k j (by rw [h.len]; omega) hj]; exact hv
theorem pc_mem {L : List Pc} {k : Nat} (h : k < L.length) : pc_ L k ∈ L := by
  show L.getD k _ ∈ L; rw [List.getD_eq_getElem?_getD, List.getElem?_eq_getElem h]; exact List.getElem_mem h
theorem pc_take {L : List Pc} {k : Nat} (h : k < L.length) : L.take (k + 1) = L.take k ++ [pc_ L k] := by
  rw [List.take_succ_eq_append_getElem h]; congr 2
  show _ = L.getD k _; rw [List.getD_eq_getElem?_getD, List.getElem?_eq_getElem h]; rfl
def ttC (z : Int) : Bool := decide ((65 ≤ z ∧ z ≤ 90) ∨ (48 ≤ z ∧ z ≤ 57))
def ttB (s : ByteArray) : Bool := decide (1 ≤ s.size ∧ s.size ≤ 8) && (List.range s.size).all fun i => ttC (chr s i)
theorem tt_no {s : ByteArray} {k : Nat} (hk : k < s.size) (h : ttC (chr s k) = false) : ttB s = false := by
  unfold ttB
  rw [show (List.range s.size).all (fun i => ttC (chr s i)) = false from List.all_eq_false.2 ⟨k, List.mem_range.2 hk, by rw [h]; decide⟩, Bool.and_false]
theorem tt_len {s : ByteArray} (h : ¬ (1 ≤ s.size ∧ s.size ≤ 8)) : ttB s = false := by unfold ttB; rw [decide_eq_false h]; rfl
theorem tt_yes {s : ByteArray} (h : 1 ≤ s.size ∧ s.size ≤ 8) (h2 : ∀ k, k < s.size → ttC (chr s k) = true) : ttB s = true := by
  unfold ttB; rw [decide_eq_true h, Bool.true_and, List.all_eq_true]; exact fun i hi => h2 i (List.mem_range.1 hi)
set_option maxRecDepth 20000 in
set_option maxHeartbeats 3200000 in
theorem terr_any (s : ByteArray) (w : World) (hs : s.size ≤ maxLen) :
    Calls Try.prog 91 #[.string s] w fun e w' => e = .returned (.bool (ttB s)) ∧ w' = w := by
  unfold maxLen at hs
  by_cases hlen : 1 ≤ s.size ∧ s.size ≤ 8
  rotate_left
  · have hE := Lib.hid (tt_len hlen)
    rcases (show (s.size : Int) < 1 ∨ (¬ (s.size : Int) < 1 ∧ (8 : Int) < (s.size : Int)) by omega) with g | ⟨g, g2⟩
    all_goals
      clear hlen
      go_enter Try.func91, Try.ntmps91
      go_wp2_with fail
      go_ret
      exact ⟨by rw [hE.out]; rfl, rfl⟩
  have HY := Lib.hid (fun h => tt_yes hlen h)
  go_enter Try.func91, Try.ntmps91
  go_wp2_with fail
  go_loop [3] (fun i => ∃ k : Nat, i = .int .i64 k ∧ k ≤ s.size ∧ (∀ j, j < k → ttC (chr s j) = true)) (fun i => s.size - (intOf i).toNat)
  case atStart => exact ⟨0, rfl, Nat.zero_le _, fun _ h => absurd h (Nat.not_lt_zero _)⟩
  case round =>
    obtain ⟨k, rfl, hk, hall⟩ := hrel
    have HA := Lib.hid hall; clear hall
    by_cases hlt : k < s.size
    · have hlt' : (k : Int) < (s.size : Int) := by omega
      have HNo := Lib.hid (fun h => tt_no hlt h)
      have HYs := Lib.hid (fun (h : ttC (chr s k) = true) j (hj : j < k + 1) => (show ttC (chr s j) = true by
        by_cases e : j = k
        · rw [e]; exact h
        · exact HA.out j (by omega)))
      obtain ⟨z0, z1⟩ := chr_bd s k
      have hz := chr_at hlt
      rw [← hz] at HNo HYs z0 z1
      clear hz HA HY
      rcases (show (-1000 ≤ (s[k].toNat : Int) ∧ (s[k].toNat : Int) ≤ 47) ∨ (48 ≤ (s[k].toNat : Int) ∧ (s[k].toNat : Int) ≤ 57) ∨ (58 ≤ (s[k].toNat : Int) ∧ (s[k].toNat : Int) ≤ 64) ∨ (65 ≤ (s[k].toNat : Int) ∧ (s[k].toNat : Int) ≤ 90) ∨ (91 ≤ (s[k].toNat : Int) ∧ (s[k].toNat : Int) ≤ 1000) by omega) with g | g | g | g | g
      · skip
        have : ¬ 65 ≤ (s[k].toNat : Int) := by omega
        have : (s[k].toNat : Int) ≤ 90 := by omega
        have : ¬ 48 ≤ (s[k].toNat : Int) := by omega
        have : (s[k].toNat : Int) ≤ 57 := by omega
        have hE := Lib.hid (HNo.out (by unfold ttC; simp; omega))
        clear HYs HNo g
        go_wp2_with fail
        go_ret
        exact ⟨by rw [hE.out]; rfl, rfl⟩
      · skip
        have : ¬ 65 ≤ (s[k].toNat : Int) := by omega
        have : (s[k].toNat : Int) ≤ 90 := by omega
        have : 48 ≤ (s[k].toNat : Int) := by omega
        have : (s[k].toNat : Int) ≤ 57 := by omega
        have hY := Lib.hid (HYs.out (by unfold ttC; simp; omega))
        clear HYs HNo g
        go_wp2_with fail
        go_round
        case rel => exact ⟨k + 1, by go_num, by omega, hY.out⟩
        case measure => simp [intOf]; omega
      · skip
        have : ¬ 65 ≤ (s[k].toNat : Int) := by omega
        have : (s[k].toNat : Int) ≤ 90 := by omega
        have : 48 ≤ (s[k].toNat : Int) := by omega
        have : ¬ (s[k].toNat : Int) ≤ 57 := by omega
        have hE := Lib.hid (HNo.out (by unfold ttC; simp; omega))
        clear HYs HNo g
        go_wp2_with fail
        go_ret
        exact ⟨by rw [hE.out]; rfl, rfl⟩
      · skip
        have : 65 ≤ (s[k].toNat : Int) := by omega
        have : (s[k].toNat : Int) ≤ 90 := by omega
        have : 48 ≤ (s[k].toNat : Int) := by omega
        have : ¬ (s[k].toNat : Int) ≤ 57 := by omega
        have hY := Lib.hid (HYs.out (by unfold ttC; simp; omega))
        clear HYs HNo g
        go_wp2_with fail
        go_round
        case rel => exact ⟨k + 1, by go_num, by omega, hY.out⟩
        case measure => simp [intOf]; omega
      · skip
        have : 65 ≤ (s[k].toNat : Int) := by omega
        have : ¬ (s[k].toNat : Int) ≤ 90 := by omega
        have : 48 ≤ (s[k].toNat : Int) := by omega
        have : ¬ (s[k].toNat : Int) ≤ 57 := by omega
        have hE := Lib.hid (HNo.out (by unfold ttC; simp; omega))
        clear HYs HNo g
        go_wp2_with fail
        go_ret
        exact ⟨by rw [hE.out]; rfl, rfl⟩
    · have hlt' : ¬ (k : Int) < (s.size : Int) := by omega
      have hE := Lib.hid (HY.out (fun j hj => HA.out j (by omega)))
      clear HY HA
      go_wp2_with fail
      go_ret
      exact ⟨by rw [hE.out]; rfl, rfl⟩
def Pc.okB (a : Pc) : Bool := ttB a.t && (a.p.ok && nmB a.z)
set_option maxRecDepth 20000 in
set_option maxHeartbeats 3200000 in
theorem pright_any (a : Pc) (w : World) (h1 : a.t.size ≤ maxLen) (h2 : a.z.size ≤ maxLen) :
    Calls Try.prog 71 #[a.V] w fun e w' => e = .returned (.bool a.okB) ∧ Below w.heap.size w w' := by
  obtain ⟨t, p, z⟩ := a
  simp only at h1 h2
  have i1 := (BI.start w).alloc (.cells (Pc.C ⟨t, p, z⟩) 67)
  have x1 := Blk.new w 67 (Pc.C ⟨t, p, z⟩)
  have d0 : (w.alloc (.cells (Pc.C ⟨t, p, z⟩) 67)).cell? ⟨w.heap.size, 0, none⟩ = some (.string t) := x1.cell 0
  have d3 : ∀ w' : World, Blk w' w.heap.size 67 (Pc.C ⟨t, p, z⟩) → w'.cell? ⟨w.heap.size, 3, none⟩ = some (.string z) := fun w' x => x.cell 3
  have hE := Lib.hid (show Pc.okB ⟨t, p, z⟩ = (ttB t && (p.ok && nmB z)) from rfl)
  have ht := fun W => terr_any t W h1
  have hn := fun W => name_any z W h2
  generalize Pc.okB ⟨t, p, z⟩ = OK at *
  generalize nmB z = NB at *
  cases hT : ttB t
  · rw [hT] at ht hE
    clear hT
    go_enter Try.func71, Try.ntmps71
    go_wp2_with fail
    refine (ht _).mono ?_; rintro e w2 ⟨rfl, h2⟩; obtain rfl := h2
    go_wp2_with fail
    go_ret
    exact ⟨by rw [hE.out]; rfl, i1⟩
  rw [hT] at ht hE
  clear hT
  cases hp : p.ok
  · have hv : (chkV p == 0) = false := by unfold chkV; rw [hp]; rfl
    rw [hp] at hE
    clear hp
    go_enter Try.func71, Try.ntmps71
    go_wp2_with fail
    refine (ht _).mono ?_; rintro e w2 ⟨rfl, h2⟩; obtain rfl := h2
    go_wp2_with (first | refine wpList_seg_g rfl 23 _ rfl _ 1 p.A rfl _ _ _ _ x1 Try.underlying23 rfl (by kernel_rfl) (by kernel_rfl) ?_)
    refine (check_any p _).mono ?_; rintro e w3 ⟨rfl, hb3⟩
    have i3 := i1.call hb3
    go_wp2_with fail
    go_ret
    exact ⟨by rw [hE.out]; rfl, i3⟩
  have hv : (chkV p == 0) = true := by unfold chkV; rw [hp]; rfl
  rw [hp] at hE
  clear hp
  go_enter Try.func71, Try.ntmps71
  go_wp2_with fail
  refine (ht _).mono ?_; rintro e w2 ⟨rfl, h2⟩; obtain rfl := h2
  go_wp2_with (first | refine wpList_seg_g rfl 23 _ rfl _ 1 p.A rfl _ _ _ _ x1 Try.underlying23 rfl (by kernel_rfl) (by kernel_rfl) ?_)
  refine (check_any p _).mono ?_; rintro e w3 ⟨rfl, hb3⟩
  have i3 := i1.call hb3
  have e3 := d3 _ (x1.below hb3 x1.lt)
  clear i1 x1 d0 d3 hb3
  go_wp2_with fail
  refine (hn _).mono ?_; rintro e w4 ⟨rfl, hb4⟩
  have i4 := i3.call hb4
  go_wp2_with fail
  go_ret
  exact ⟨by rw [hE.out]; rfl, i4⟩
def pcsB (L : List Pc) : Bool := L.all Pc.okB
theorem pcs_take {L : List Pc} {k : Nat} (h : k < L.length) : pcsB (L.take (k + 1)) = (pcsB (L.take k) && (pc_ L k).okB) := by
  unfold pcsB; rw [pc_take h, List.all_append]; simp
theorem pcs_no {L : List Pc} {k : Nat} (h : k < L.length) (hp : (pc_ L k).okB = false) : pcsB L = false := by
  unfold pcsB; rw [List.all_eq_false]; exact ⟨_, pc_mem h, by rw [hp]; decide⟩
def pcE (L : List Pc) : Int := if 4096 < L.length then 6 else if pcsB L = true then 0 else 2
set_option maxRecDepth 20000 in
set_option maxHeartbeats 3200000 in
theorem pcheck_any (A : Option Addr) (n c : Nat) (L : List Pc) (w : World) (hR : Pcs w w.heap.size A n L) (hm : n ≤ maxLen) :
    Calls Try.prog 40 #[.slice A n c] w fun e w' => e = .returned (.int .i64 (pcE L)) ∧ Below w.heap.size w w' := by
  have hll := hR.len
  unfold maxLen at hm
  by_cases hn : (4096 : Int) < (n : Int)
  · have hE := Lib.hid (show pcE L = 6 by unfold pcE; rw [if_pos (by omega)])
    go_enter Try.func40, Try.ntmps40
    go_wp2_with fail
    go_ret
    exact ⟨by rw [hE.out]; rfl, Below.refl _ _⟩
  have HE := Lib.hid (show pcE L = if pcsB L = true then 0 else 2 by unfold pcE; rw [if_neg (by omega)])
  go_enter Try.func40, Try.ntmps40
  go_wp2_with fail
  go_loopw [10] (fun i w' => ∃ k : Nat, i = .int .i64 k ∧ k ≤ n ∧ pcsB (L.take k) = true ∧ BI w w') (fun i _ => n - (intOf i).toNat)
  case atStart => exact ⟨0, rfl, Nat.zero_le _, by simp [pcsB], BI.start w⟩
  case round =>
    obtain ⟨k, rfl, hk, hall, hb⟩ := hrel
    by_cases hlt : k < n
    · have hlt' : (k : Int) < (n : Int) := by omega
      obtain ⟨ad, rfl, hrow⟩ := (hR.below hb.b).row hlt
      have hbd := hR.p _ (pc_mem (show k < L.length by omega))
      have HT := Lib.hid (pcs_take (L := L) (k := k) (by omega))
      have HA := Lib.hid hall
      have HN := Lib.hid (fun h => pcs_no (L := L) (k := k) (by omega) h)
      clear hall
      generalize pc_ L k = a at *
      have hb1 := hb.alloc (.cells a.C 67)
      have x1 := Blk.new wr 67 a.C
      have hck := pright_any a (wr.alloc (.cells a.C 67)) hbd.1 hbd.2
      go_wp2_with (first | refine wpList_at_g rfl 67 _ rfl w.heap.size _ a.C rfl _ hrow Try.underlying67 rfl (by kernel_rfl) ?_ | refine wpList_store_new rfl 67 _ _ rfl rfl wr.heap.size a.C rfl rfl _ ZP wr rfl rfl rfl (by kernel_rfl) (by kernel_rfl) ?_ | refine wpList_row_g rfl 67 _ rfl _ rfl _ _ _ _ x1 Try.underlying67 rfl (by kernel_rfl) ?_)
      refine hck.mono ?_; rintro e w3 ⟨rfl, hb3⟩
      have i3 := hb1.call hb3
      clear hb1 x1 hck hb3 hrow
      cases ha : a.okB
      · have hE := Lib.hid (show pcE L = 2 by rw [HE.out, HN.out ha]; rfl)
        clear ha
        go_wp2_with fail
        go_ret
        exact ⟨by rw [hE.out]; rfl, i3⟩
      · have HA2 := Lib.hid (show pcsB (L.take (k + 1)) = true by rw [HT.out, HA.out, ha]; rfl)
        clear ha
        go_wp2_with fail
        go_roundw
        case rel => exact ⟨k + 1, by go_num, by omega, HA2.out, i3⟩
        case measure => simp [intOf]; omega
    · obtain rfl : k = n := by omega
      have hlt' : ¬ (k : Int) < (k : Int) := by omega
      rw [List.take_of_length_le (by omega)] at hall
      have hE := Lib.hid (show pcE L = 0 by rw [HE.out, hall]; rfl)
      clear hall
      go_wp2_with fail
      go_ret
      exact ⟨by rw [hE.out]; rfl, hb⟩
def ncE (L : List Pc) (p : P2) : Int := if pcE L = 0 then chkV p else pcE L
set_option maxRecDepth 20000 in
set_option maxHeartbeats 1600000 in
theorem ncheck_any (A : Option Addr) (n c : Nat) (L : List Pc) (p : P2) (w : World) (hR : Pcs w w.heap.size A n L) (hm : n ≤ maxLen) :
    Calls Try.prog 73 #[.slice A n c, p.V] w fun e w' => e = .returned (.int .i64 (ncE L p)) ∧ Below w.heap.size w w' := by
  have i1 := (BI.start w).alloc (.cells p.A 23)
  have y1 := Blk.new w 23 p.A
  have hpk := pcheck_any A n c L _ ((hR.below i1.b).more i1.b.size) hm
  have hE := Lib.hid (show ncE L p = if pcE L = 0 then chkV p else pcE L from rfl)
  generalize ncE L p = NE at *
  generalize pcE L = K at *
  by_cases hK : K = 0
  · rw [if_pos hK] at hE
    have hv : (K != 0) = false := by simp [hK]
    clear hK
    have hck := fun W => check_any p W
    generalize chkV p = CV at *
    go_enter Try.func73, Try.ntmps73
    go_wp2_with fail
    refine hpk.mono ?_; rintro e w2 ⟨rfl, hb2⟩
    have i2 := i1.call hb2
    have y2 := y1.below hb2 y1.lt
    clear i1 y1 hb2 hpk
    go_wp2_with (first | refine wpList_row_g rfl 23 _ rfl _ rfl _ _ _ _ y2 Try.underlying23 rfl (by kernel_rfl) ?_)
    refine (hck _).mono ?_; rintro e w3 ⟨rfl, hb3⟩
    have i3 := i2.call hb3
    go_wp2_with fail
    go_ret
    exact ⟨by rw [hE.out]; rfl, i3⟩
  · rw [if_neg hK] at hE
    have hv : (K != 0) = true := by simp [hK]
    clear hK
    go_enter Try.func73, Try.ntmps73
    go_wp2_with fail
    refine hpk.mono ?_; rintro e w2 ⟨rfl, hb2⟩
    have i2 := i1.call hb2
    go_wp2_with fail
    go_ret
    exact ⟨by rw [hE.out]; rfl, i2⟩
end Go.Proofs.Ytoiccljmdplfgaa.Nr
