/-
  THE PLANE's FUNCTIONS, WALKED: Check, right, number, conj, point.
-/
import Derived.Test.YtoiccljmdplfgaaRows
import Derived.Test.YtoiccljmdplfgaaArm
import Derived.Test.YtoiccljmdplfgaaPlF
import Derived.Test.YtoiccljmdplfgaaPlM
import Derived.WalkLawsBesides
import Derived.Lib.Hide
namespace Go.Proofs.Ytoiccljmdplfgaa.Pl
open Go.ChangeShapes Go.WideShapes Go.ChangeAt Go.RowKit
open Go.Proofs.Ytoiccljmdplfgaa
open Go.Proofs.Ytoiccljmdplfgaa.Wd
open Go.Proofs.Ytoiccljmdplfgaa.Flo (fl Is)
set_option linter.unusedVariables false
abbrev P2.V (p : P2) : Value := .agg #[.int .i64 p.la, .int .i64 p.lo]
abbrev P2.A (p : P2) : Array Value := #[.int .i64 p.la, .int .i64 p.lo]
def chkV (p : P2) : Int := if p.ok = true then 0 else 2
theorem check_any (p : P2) (w : World) :
    Calls Try.prog 14 #[p.V] w fun e w' => e = .returned (.int .i64 (chkV p)) ∧ Below w.heap.size w w' := by
  have hb := (Below.refl w.heap.size w).alloc (Nat.le_refl _) (.cells p.A 23)
  obtain ⟨a, b⟩ := p
  by_cases h : -324000 ≤ a ∧ a ≤ 324000 ∧ -648000 ≤ b ∧ b ≤ 648000
  · have hv : chkV ⟨a, b⟩ = 0 := by unfold chkV; rw [if_pos (P2.ok_iff.2 h)]
    rw [hv]; clear hv
    obtain ⟨h1, h2, h3, h4⟩ := h
    go_enter Try.func14, Try.ntmps14
    go_wp2
    go_ret
    exact ⟨rfl, hb⟩
  · have hv : chkV ⟨a, b⟩ = 2 := by unfold chkV; rw [if_neg (fun q => h (P2.ok_iff.1 q))]
    rw [hv]; clear hv
    have hs : a < -324000 ∨ (-324000 ≤ a ∧ 324000 < a) ∨ (-324000 ≤ a ∧ a ≤ 324000 ∧ b < -648000) ∨ (-324000 ≤ a ∧ a ≤ 324000 ∧ -648000 ≤ b ∧ 648000 < b) := by omega
    clear h
    rcases hs with h1 | ⟨h1, h2⟩ | ⟨h1, h2, h3⟩ | ⟨h1, h2, h3, h4⟩
    all_goals
      go_enter Try.func14, Try.ntmps14
      go_wp2
      go_ret
      exact ⟨rfl, hb⟩
def flatP : List P2 → List Value
  | [] => []
  | p :: l => p.A.toList ++ flatP l
theorem flatP_cons (p : P2) (l : List P2) : ∃ L : List Value, L.length = 2 ∧ (∀ i : Nat, L[i]? = p.A[i]?) ∧ flatP (p :: l) = L ++ flatP l := ⟨p.A.toList, rfl, fun i => Array.getElem?_toList, rfl⟩
theorem flatP_len (l : List P2) : (flatP l).length = l.length * 2 := by
  induction l with
  | nil => rfl
  | cons p l ih =>
    obtain ⟨L, h1, _, h2⟩ := flatP_cons p l
    rw [h2, List.length_append, ih, h1, List.length_cons]; omega
theorem flatP_at (l : List P2) (k i : Nat) (hk : k < l.length) (hi : i < 2) : (flatP l)[2 * k + i]? = l[k].A[i]? := by
  induction l generalizing k with
  | nil => exact absurd hk (Nat.not_lt_zero _)
  | cons p l ih =>
    obtain ⟨L, h1, h3, h2⟩ := flatP_cons p l
    rw [h2]
    cases k with
    | zero => rw [List.getElem?_append_left (by omega), Nat.mul_zero, Nat.zero_add, h3]; rfl
    | succ k => rw [List.getElem?_append_right (by omega), h1, show 2 * (k + 1) + i - 2 = 2 * k + i by omega, ih k (Nat.lt_of_succ_lt_succ hk)]; rfl
/-- a slice of points that reads as a list of them -/
def Pts (w : World) (B : Nat) (A : Option Addr) (n : Nat) (l : List P2) : Prop := l.length = n ∧ Reads w B 2 A n (flatP l)
theorem Pts.below {w w' : World} {B n : Nat} {A : Option Addr} {l : List P2} (h : Pts w B A n l) (hb : Below B w w') : Pts w' B A n l := ⟨h.1, h.2.below hb⟩
theorem Pts.row {w : World} {B n k : Nat} {A : Option Addr} {l : List P2} (h : Pts w B A n l) (hk : k < n) (hl : k < l.length) : ∃ ad, A = some ad ∧ Row w B (ad.add (k * 2)) l[k].A := by
  obtain ⟨hlen, hr⟩ := h
  obtain ⟨ad, rfl, hb, hc⟩ := hr.2 (by omega)
  refine ⟨ad, rfl, by rw [block_of_add]; exact hb, fun j v hv => ?_⟩
  rw [add_of_add]
  have hj : j < 2 := by
    rcases Nat.lt_or_ge j 2 with g | g
    · exact g
    · have : l[k].A.size = 2 := rfl
      rw [Array.getElem?_eq_none (by omega)] at hv; cases hv
  refine hc _ _ ?_
  rw [Nat.mul_comm k 2, flatP_at l k j (by omega) hj]; exact hv
theorem pts_of {w : World} {g : Nat} {t : TypeId} {cs : Array Value} {l : List P2} (x : Blk w g t cs) (h : cs.toList = flatP l) : Pts w w.heap.size (some ⟨g, 0, none⟩) l.length l := by
  refine ⟨rfl, flatP_len l, fun _ => ⟨_, rfl, x.lt, fun j u hu => ?_⟩⟩
  have e : (⟨g, 0, none⟩ : Addr).add j = ⟨g, j, none⟩ := by unfold Addr.add; split <;> simp_all
  rw [e, x.cell, ← Array.getElem?_toList, h]; exact hu
def okP (l : List P2) : Bool := l.all P2.ok
theorem okP_take {l : List P2} {k : Nat} (h : k < l.length) : okP (l.take (k + 1)) = (okP (l.take k) && l[k].ok) := by
  unfold okP; rw [List.take_succ_eq_append_getElem h, List.all_append]; simp
theorem okP_no {l : List P2} {k : Nat} (h : k < l.length) (hp : l[k].ok = false) : okP l = false := by
  unfold okP; rw [List.all_eq_false]; exact ⟨l[k], List.getElem_mem h, by rw [hp]; decide⟩
set_option maxRecDepth 20000 in
set_option maxHeartbeats 1600000 in
theorem right_any (A : Option Addr) (n c B : Nat) (l : List P2) (w : World) (hR : Pts w B A n l) (hB : B ≤ w.heap.size) (hn : n ≤ 1000) :
    Calls Try.prog 49 #[.slice A n c] w fun e w' => e = .returned (.bool (okP l)) ∧ Below w.heap.size w w' := by
  have hll : l.length = n := hR.1
  go_enter Try.func49, Try.ntmps49
  go_wp2
  go_loopw [4, 7] (fun _ i w' => ∃ k : Nat, i = .int .i64 k ∧ k ≤ n ∧ okP (l.take k) = true ∧ Below w.heap.size w w') (fun _ i _ => n - (intOf i).toNat)
  case atStart => exact ⟨0, rfl, Nat.zero_le _, by simp [okP], Below.refl _ _⟩
  case round =>
    obtain ⟨k, rfl, hk, hall, hb⟩ := hrel
    by_cases hlt : k < n
    · have hlt' : (k : Int) < (n : Int) := by omega
      have hkl : k < l.length := by omega
      obtain ⟨ad, rfl, hrow⟩ := (hR.below (hb.mono hB)).row hlt hkl
      have hT := Lib.hid (okP_take hkl)
      have hNo := Lib.hid (okP_no hkl)
      have HA := Lib.hid hall; clear hall
      generalize l[k] = r at *
      have hb1 := hb.alloc hb.size (.cells r.A 23)
      go_wp2_with (refine wpList_at_g rfl 23 _ rfl B _ r.A rfl _ hrow Try.underlying23 rfl (by kernel_rfl) ?_)
      refine (check_any r _).mono ?_; rintro e w1 ⟨rfl, hb2⟩
      have hb3 := hb1.trans (hb2.mono hb1.size)
      clear hb1 hb2 hb
      cases hr : r.ok
      · have HF := Lib.hid (hNo.out hr)
        have hv : (chkV r != 0) = true := by unfold chkV; rw [hr]; rfl
        clear hr
        go_wp2_with fail
        go_ret
        exact ⟨by rw [HF.out]; rfl, hb3⟩
      · have HF := Lib.hid hr
        have hv : (chkV r != 0) = false := by unfold chkV; rw [hr]; rfl
        clear hr
        go_wp2_with fail
        go_roundw
        case rel => exact ⟨k + 1, by go_num, by omega, by rw [hT.out, HA.out, HF.out]; rfl, hb3⟩
        case measure => simp [intOf]; omega
    · obtain rfl : k = n := by omega
      have hlt' : ¬ (k : Int) < (k : Int) := by omega
      rw [List.take_of_length_le (by omega)] at hall
      have HA := Lib.hid hall; clear hall
      go_wp2
      go_ret
      exact ⟨by rw [HA.out]; rfl, hb⟩
theorem number_any (p : P2) (w : World) :
    Calls Try.prog 50 #[p.V] w fun e w' => e = .returned (.complex .f64 (fl p.lo) (fl p.la)) ∧ Below w.heap.size w w' := by
  have hb := (Below.refl w.heap.size w).alloc (Nat.le_refl _) (.cells p.A 23)
  have hc1 := fun w => run_convert_int_float (P := Try.prog) w 3 84 .i64 .f64 p.lo (by kernel_rfl) (by kernel_rfl)
  have hc2 := fun w => run_convert_int_float (P := Try.prog) w 3 84 .i64 .f64 p.la (by kernel_rfl) (by kernel_rfl)
  go_enter Try.func50, Try.ntmps50
  go_wp2
  go_ret
  exact ⟨rfl, hb⟩
theorem conj_any (a b : Nat) (w : World) :
    Calls Try.prog 51 #[.complex .f64 a b] w fun e w' => e = .returned (.complex .f64 a (Go.Op.negFloat .f64 b)) ∧ w' = w := by
  have hn : ∀ w : World, (Go.Op.unary .neg (.float .f64 b)).run Try.prog w = Result.ok (.float .f64 (Go.Op.negFloat .f64 b)) w := fun w => rfl
  go_enter Try.func51, Try.ntmps51
  go_wp2
  go_ret
  exact ⟨rfl, rfl⟩
theorem results_p {fn : Func} {p : Tmp} (h : fn.results = #[.cell p 23]) (tmps : Array Value) (w : World) (g : Nat) (t : TypeId) (cs : Array Value)
    (hp : tmps.getD p undef = .pointer (some ⟨g, 0, none⟩)) (hg : w.heap[g]? = some (.cells cs t (0, 0))) (hs : cs.size = 2) :
    (results fn tmps).run Try.prog w = .ok (.agg cs) w := by
  have hp' : tmps[p]?.getD undef = .pointer (some ⟨g, 0, none⟩) := by simpa using hp
  have hi : (Try.prog.info? 23).map (·.size) = some cs.size := by rw [hs]; kernel_rfl
  simp [results, h, hp', asAddr, run_loadVar_row w g t 23 cs (0, 0) _ hg Try.underlying23 rfl hi]
theorem point_any (p : P2) (a b : Nat) (w : World) (ha : Is a p.lo) (hb : Is b p.la) (h1 : -9223372036854775808 ≤ p.lo ∧ p.lo ≤ 9223372036854775807) (h2 : -9223372036854775808 ≤ p.la ∧ p.la ≤ 9223372036854775807) :
    Calls Try.prog 52 #[.complex .f64 a b] w fun e w' => e = .returned p.V ∧ Below w.heap.size w w' := by
  have hc1 := fun w => run_convert_float_int (P := Try.prog) w 84 3 .f64 .i64 a p.lo (by kernel_rfl) (by kernel_rfl) (Flo.toIntV ha h1.1 h1.2)
  have hc2 := fun w => run_convert_float_int (P := Try.prog) w 84 3 .f64 .i64 b p.la (by kernel_rfl) (by kernel_rfl) (Flo.toIntV hb h2.1 h2.2)
  have hbl := (Below.refl w.heap.size w).alloc (Nat.le_refl _) (.cells p.A 23)
  go_enter Try.func52, Try.ntmps52
  go_wp2_with (refine wpList_store_new rfl 23 _ _ rfl rfl w.heap.size p.A rfl rfl _ #[.int .i64 0, .int .i64 0] w rfl rfl rfl (by kernel_rfl) (by kernel_rfl) ?_)
  exact bodyPost_ret (results_p rfl _ _ _ _ _ rfl (Blk.new w _ _) rfl) rfl ⟨rfl, hbl⟩
end Go.Proofs.Ytoiccljmdplfgaa.Pl
