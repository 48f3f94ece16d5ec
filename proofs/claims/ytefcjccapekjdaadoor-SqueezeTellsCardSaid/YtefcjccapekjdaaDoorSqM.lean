/-
  YEARS THAT ARE MISSED: walked.
-/
import Derived.Test.YtefcjccapekjdaaDoorSqC
namespace Go.Proofs.YtefcjccapekjdaaDoor.Sq
open Go.ChangeShapes Go.WideShapes Go.ChangeAt Go.RowKit
open Go.Proofs.YtefcjccapekjdaaDoor
open Go.Proofs.YtefcjccapekjdaaDoor.Wd
open Go.Proofs.YtefcjccapekjdaaDoor.Rec
open Go.Proofs.YtefcjccapekjdaaDoor.Yr
open Go.Proofs.YtefcjccapekjdaaDoor.Clk (yrV yrE)
open Go.Proofs.YtefcjccapekjdaaDoor.Civ (Tab Inv)
set_option linter.unusedVariables false
open Go.Proofs.YtefcjccapekjdaaDoor.Tb
abbrev miA (key : ByteArray) (m : Int × Int) : Array Value := #[.string key, .int .i64 m.1, .int .u8 m.2]
def flatM (key : ByteArray) : List (Int × Int) → List Value
  | [] => []
  | m :: t => (miA key m).toList ++ flatM key t
theorem flatM_app (key : ByteArray) (l m : List (Int × Int)) : flatM key (l ++ m) = flatM key l ++ flatM key m := by
  induction l with
  | nil => rfl
  | cons r t ih => show (miA key r).toList ++ flatM key (t ++ m) = ((miA key r).toList ++ flatM key t) ++ flatM key m; rw [ih, List.append_assoc]
theorem flatM_len (key : ByteArray) (l : List (Int × Int)) : (flatM key l).length = l.length * 3 := by
  induction l with
  | nil => rfl
  | cons r t ih => show ((miA key r).toList ++ flatM key t).length = _; rw [List.length_append, ih]; show 3 + t.length * 3 = (t.length + 1) * 3; omega
/-- what is missed of the first k years -/
def msK (P : Int) (q : List Int) : Nat → List (Int × Int)
  | 0 => []
  | k + 1 => if q.getD k 0 = 0 then msK P q k else msK P q k ++ [(P + (k : Int), q.getD k 0)]
theorem msK_len (P : Int) (q : List Int) (k : Nat) : (msK P q k).length ≤ k := by
  induction k with
  | zero => exact Nat.le_refl _
  | succ k ih =>
    show (if _ then _ else _ : List (Int × Int)).length ≤ _
    split
    · omega
    · rw [List.length_append]; show _ + 1 ≤ _; omega
def msN (P : Int) (n : Nat) : Nat := if P + (n : Int) ≤ 10000 then n else (10000 - P).toNat
def msL (P : Int) (q : List Int) : List (Int × Int) := msK P q (msN P q.length)
theorem ms_info : (Tryd.prog.info? 89).map (fun i => (i.zero, i.size, i.bytes)) = some (some (.agg #[.string ByteArray.empty, .int .i64 0, .int .u8 0]), 3, 32) := by kernel_rfl
theorem reads_mi (w : World) (t : TypeId) (key : ByteArray) (m : Int × Int) {n : Nat} (h : w.heap.size = n) : Reads (w.alloc (.cells (miA key m) t)) (n + 1) 3 (some ⟨n, 0, none⟩) 1 (miA key m).toList := by
  subst h
  exact ⟨rfl, fun _ => ⟨_, rfl, Nat.lt_succ_self _, fun j x hx => by
    match j, hx with
    | 0, hx => simp at hx; subst hx; simp [Addr.add]
    | 1, hx => simp at hx; subst hx; simp [Addr.add]
    | 2, hx => simp at hx; subst hx; simp [Addr.add]⟩⟩
theorem mi_one (key : ByteArray) (m : Int × Int) : ∀ u ∈ (miA key m).toList, u.oneCell' = true := by
  intro u hu; simp at hu; rcases hu with rfl | rfl | rfl <;> rfl
theorem own_bel9 {w w' : World} {base : Nat} {e : TypeId} {size : Nat} {v : Value} {n : Nat} {xs : List Value} (h : w.ownsRow base e size v n xs) (hb : Below w.heap.size w w') : w'.ownsRow base e size v n xs := by
  refine ⟨h.1, ?_⟩
  rcases h.2 with h' | ⟨g, cap, cur, h1, h2, h3, h4⟩
  · exact .inl h'
  · exact .inr ⟨g, cap, cur, h1, h2, by rw [hb.block g (Array.getElem?_eq_some_iff.1 h3).1]; exact h3, h4⟩
theorem own_lt9 {w : World} {base : Nat} {e : TypeId} {size n : Nat} {v : Value} {xs : List Value} (h : w.ownsRow base e size v n xs) : ∀ g, v.ownBlock = some g → base ≤ g ∧ g < w.heap.size := by
  intro g hg
  rcases h.2 with ⟨rfl, _⟩ | ⟨g', cap, cur, rfl, h2, h3, _⟩
  · simp [Value.ownBlock] at hg
  · simp [Value.ownBlock] at hg; subst hg; exact ⟨h2, (Array.getElem?_eq_some_iff.1 h3).1⟩
theorem own_form9 {w : World} {base size n : Nat} {e : TypeId} {v : Value} {xs : List Value} (h : w.ownsRow base e size v n xs) (hx : xs.length = size * n) :
    ∃ (A : Option Addr) (c : Nat), v = .slice A n c ∧ n ≤ c ∧ Reads w w.heap.size size A n xs := by
  by_cases h0 : n = 0
  · rcases h.2 with ⟨hv, _⟩ | ⟨g, cap, cur, hv, h2, h3, h4, h5⟩
    · subst h0
      obtain rfl : xs = [] := List.eq_nil_of_length_eq_zero (by omega)
      exact ⟨none, 0, hv, by omega, Reads.none_⟩
    · subst hv; exact ⟨some ⟨g, 0, none⟩, cap, rfl, by omega, Reads.of_own h⟩
  · rcases h.2 with ⟨_, h1⟩ | ⟨g, cap, cur, hv, h2, h3, h4, h5⟩
    · omega
    · subst hv; exact ⟨some ⟨g, 0, none⟩, cap, rfl, h4, Reads.of_own h⟩
set_option maxRecDepth 100000 in
set_option maxHeartbeats 6400000 in
theorem missed_any (key : ByteArray) (P : Int) (A A2 : Option Addr) (n c n2 c2 : Nat) (l : List Rc) (q : List Int) (w : World) (hT : Tab w) (hp : PlanR w w.heap.size P A A2 n n2 l q) (hn100 : n2 ≤ 100) :
    Calls Tryd.prog 59 #[.string key, plV P A A2 n c n2 c2] w fun e w' => ∃ (A' : Option Addr) (c' : Nat), e = .returned (.slice A' (msL P q).length c') ∧ (msL P q).length ≤ c' ∧ Reads w' w'.heap.size 3 A' (msL P q).length (flatM key (msL P q)) ∧ Below w.heap.size w w' := by
  have i0 := Inv.start hT
  have i1 := i0.alloc (.cells #[.int .i64 P, .slice A n c, .slice A2 n2 c2] 75)
  have x1 := Blk.new w 75 #[.int .i64 P, .slice A n c, .slice A2 n2 c2]
  obtain ⟨hl, hq⟩ := hp.len
  have hpp := hp.p; have hm := hp.m; have hm2 := hp.m2
  unfold maxLen at hm hm2
  obtain ⟨i0i, hi0, hz0, hz1, hz2⟩ := info_parts ms_info
  have HL := Lib.hid (show msL P q = msK P q (msN P n2) by unfold msL; rw [hq])
  go_enter Tryd.func59, Tryd.ntmps59
  go_upto_region 2 with fail
  generalize w.alloc (.cells #[.int .i64 P, .slice A n c, .slice A2 n2 c2] 75) = W at *
  have d2 : W.cell? ⟨w.heap.size, 2, none⟩ = some (.slice A2 n2 c2) := x1.cell 2
  have hown0 := World.ownsRow_nil W w.heap.size 89 3
  go_wp2_with fail
  go_loopw [11, 5] (fun i v wr => ∃ k : Nat, i = .int .i64 k ∧ k ≤ n2 ∧ k ≤ msN P n2 ∧ wr.ownsRow w.heap.size 89 3 v (msK P q k).length (flatM key (msK P q k)) ∧ Blk wr w.heap.size 75 #[.int .i64 P, .slice A n c, .slice A2 n2 c2] ∧ Inv w wr) (fun i _ _ => n2 - (intOf i).toNat)
  case atStart => exact ⟨0, rfl, Nat.zero_le _, Nat.zero_le _, hown0, x1, i1⟩
  case round =>
    clear hown0 x1 i1 d2
    obtain ⟨k, rfl, hk, hkn, hown, hx, hi⟩ := hrel
    have d0 : wr.cell? ⟨w.heap.size, 0, none⟩ = some (.int .i64 P) := hx.cell 0
    have hlen := msK_len P q k
    by_cases hlt : k < n2
    · have hlt' : (k : Int) < (n2 : Int) := by omega
      obtain ⟨bd, rfl, hc⟩ := int_at (hp.e.below hi.2) (show k < n2 by omega) (show k < q.length by omega)
      have heq : q[k]'(by omega) = q.getD k 0 := by rw [List.getD_eq_getElem?_getD, List.getElem?_eq_getElem (by omega)]; rfl
      rw [heq] at hc
      by_cases hg : 9999 - (k : Int) < P
      · have HK := Lib.hid (show msN P n2 = k by unfold msN at hkn ⊢; split at hkn <;> split <;> omega)
        obtain ⟨A', c', rfl, hcc, hrd⟩ := own_form9 hown (by rw [flatM_len]; omega)
        clear hown hkn heq
        generalize q.getD k 0 = z at *
        go_wp2_with fail
        go_ret
        exact ⟨A', c', by rw [HL.out, HK.out]; rfl, by rw [HL.out, HK.out]; exact hcc, by rw [HL.out, HK.out]; exact hrd, hi.2⟩
      · have HK := Lib.hid (show k + 1 ≤ msN P n2 by unfold msN at hkn ⊢; split at hkn <;> split <;> omega)
        have hst : msK P q (k + 1) = if q.getD k 0 = 0 then msK P q k else msK P q k ++ [(P + (k : Int), q.getD k 0)] := rfl
        clear hkn heq
        generalize q.getD k 0 = z at *
        obtain ⟨Lk, hLk⟩ : ∃ L, msK P q k = L := ⟨_, rfl⟩
        rw [hLk] at hown hst hlen
        clear hLk
        by_cases hz : z = 0
        · rw [if_pos hz] at hst
          have HST := Lib.hid hst
          clear hst
          have hzb : (z != 0) = false := by simp [hz]
          go_wp2_with fail
          go_roundw
          case rel => exact ⟨k + 1, by go_num, by omega, HK.out, by rw [HST.out]; exact hown, hx, hi⟩
          case measure => simp [intOf]; omega
        · rw [if_neg hz] at hst
          have HST := Lib.hid hst
          clear hst
          have hzb : (z != 0) = true := by simp [hz]
          go_wp2_with (at_builtin; refine wpList_append_any _ rfl (.tmp 23) (.tmp 31) 81 rfl w.heap.size 89 i0i _ 3 32 Tryd.underlying81 hi0 hz0 hz1 hz2 rfl (by decide) _ Lk.length _ rfl (hown.alloc _) _ _ 1 1 (miA key (P + (k : Int), z)).toList rfl (reads_mi _ _ key (P + (k : Int), z) rfl) (mi_one key (P + (k : Int), z)) (by unfold maxLen; omega) (by omega) (by have := hi.2.size; simp at this ⊢; omega) ?_; intro v1 w1 hown1 hg1 _)
          have hi2 := hi.alloc (.cells (miA key (P + (k : Int), z)) 89)
          have hx2 := hx.alloc (.cells (miA key (P + (k : Int), z)) 89)
          have bB := Below.grown hi2.2 hg1 hi2.2.size (fun g hg => (own_lt9 hown g hg).1)
          have hx3 := hx2.grown hg1 (fun e => own_blk_ne (hown.alloc _) hx2 (by decide) e.symm)
          go_roundw
          case rel => exact ⟨k + 1, by go_num, by omega, HK.out, by rw [HST.out]; simp only [List.length_append, flatM_app]; exact hown1, hx3, ⟨hT.below hT.1 bB, bB⟩⟩
          case measure => simp [intOf]; omega
    · obtain rfl : n2 = k := by omega
      have hlt' : ¬ (n2 : Int) < (n2 : Int) := by omega
      have HK := Lib.hid (show msN P n2 = n2 by unfold msN at hkn ⊢; split at hkn <;> split <;> omega)
      obtain ⟨A', c', rfl, hcc, hrd⟩ := own_form9 hown (by rw [flatM_len]; omega)
      clear hown hkn
      go_wp2_with fail
      go_ret
      exact ⟨A', c', by rw [HL.out, HK.out]; rfl, by rw [HL.out, HK.out]; exact hcc, by rw [HL.out, HK.out]; exact hrd, hi.2⟩
end Go.Proofs.YtefcjccapekjdaaDoor.Sq
