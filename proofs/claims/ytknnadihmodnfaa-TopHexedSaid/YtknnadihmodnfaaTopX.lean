/-
  TopHexed, WALKED: any bytes, told by their digits, and written as fields of a line, are read from it.
-/
import Derived.Test.YtknnadihmodnfaaHexM
import Derived.Test.YtknnadihmodnfaaTopG
import Derived.Test.YtknnadihmodnfaaArm
import Derived.Deep.Strs
import Derived.SizedLaws
namespace Go.Proofs.Ytknnadihmodnfaa.TopX
open Go.ChangeShapes Go.WideShapes Go.ChangeAt Go.RowKit
open Go.Proofs.Ytknnadihmodnfaa
open Go.Proofs.Ytknnadihmodnfaa.Wd
open Go.Proofs.Ytknnadihmodnfaa.Lit
open Go.Proofs.Ytknnadihmodnfaa.Scn
set_option linter.unusedVariables false
theorem field_row {w : World} {B n k : Nat} {A : Option Addr} {l : List Fl} (hr : Reads w B 2 A n (flatF l)) (hk : k < n) (hl : k < l.length) : ∃ ad, A = some ad ∧ Row w B (ad.add (k * 2)) (flA l[k]) := by
  obtain ⟨ad, rfl, hb, hc⟩ := hr.2 (by omega)
  refine ⟨ad, rfl, by rw [block_of_add]; exact hb, fun j v hv => ?_⟩
  rw [add_of_add]
  exact hc _ _ (flat_at l k hl j v hv)
theorem size_le_cost {x : ByteArray} : ∀ {xs : List ByteArray}, x ∈ xs → 3 * x.size ≤ cost xs
  | a :: t, h => by
    rcases List.mem_cons.1 h with rfl | h
    · simp only [cost]; omega
    · have := size_le_cost h; simp only [cost]; omega
theorem unhx (x : ByteArray) : unV (L (hxB x)) = L x ∧ unE (L (hxB x)) = 0 := un_yes (unh_of (L x))
theorem bytes_back (x : ByteArray) : (⟨(L x).toArray⟩ : ByteArray) = x := by cases x; simp [L]
set_option maxRecDepth 20000 in
set_option maxHeartbeats 6400000 in
theorem hexed_any (A : Option Addr) (n c : Nat) (xs : List ByteArray) (w : World) (hr : Reads w w.heap.size 1 A n (xs.map Value.string)) (hsz : ∀ x ∈ xs, x.size ≤ 140737488355328) (hn : n ≤ 9223372036854775807) :
    Calls Try.prog 5 #[.slice A n c] w fun e w' => e = .returned (.bool true) ∧ Below w.heap.size w w' := by
  have hll : xs.length = n := by have := hr.1; simpa using this
  by_cases h24 : 24 < n
  · have h24' : (24 : Int) < (n : Int) := by omega
    clear hr hsz
    go_enter Try.func5, Try.ntmps5
    go_wp2_with (go_at_call 22; refine (TopG.begins_any _).mono ?_; rintro e w1 ⟨rfl, hb1⟩)
    go_ret
    exact ⟨rfl, hb1⟩
  · have h24' : ¬ (24 : Int) < (n : Int) := by omega
    have hn24 : n ≤ 24 := by omega
    obtain ⟨i0, hi0, hz0, hz1, hz2⟩ := info_parts Scn.str_info
    go_enter Try.func5, Try.ntmps5
    go_wp2_with (go_at_call 22; refine (TopG.begins_any _).mono ?_; rintro e w1 ⟨rfl, hb1⟩)
    go_loopw [3, 4, 6, 23] (fun al v _ i w' => ∃ k : Nat, i = .int .i64 k ∧ k ≤ n ∧ al = .int .i64 (cost (xs.take k) : Int) ∧ cost (xs.take k) ≤ 2000 ∧ w'.ownsRow w.heap.size 9 1 v k (((xs.take k).map hxB).map Value.string) ∧ Below w.heap.size w w') (fun _ _ _ i _ => n - (intOf i).toNat)
    case atStart => exact ⟨0, rfl, Nat.zero_le _, rfl, Nat.zero_le _, own_nil _ _ _ _, hb1⟩
    case round =>
      obtain ⟨k, rfl, hk, rfl, hcost, hown, hbw⟩ := hrel
      have hbs := hbw.size
      by_cases hlt : k < n
      · have hlt' : (k : Int) < (n : Int) := by omega
        have hkl : k < xs.length := by omega
        obtain ⟨ad, rfl, hcell⟩ := str_at (hr.keep fun p hp => hbw.cell (show p.block < w.heap.size by omega)) hlt hkl
        have hT := Lib.hid (cost_take hkl)
        have hT2 := Lib.hid (List.take_succ_eq_append_getElem hkl)
        have hxs := hsz _ (List.getElem_mem hkl)
        generalize xs[k] = x at *
        generalize cost (xs.take k) = cc at *
        by_cases hbig : 2000 < cc + (3 * x.size + 3)
        · have hbig' : (2000 : Int) < (cc : Int) + (3 * (x.size : Int) + 3) := by omega
          clear hbig hr hsz
          go_wp2
          go_ret
          exact ⟨rfl, hbw⟩
        · have hbig' : ¬ (2000 : Int) < (cc : Int) + (3 * (x.size : Int) + 3) := by omega
          have hx6 : x.size ≤ 1000000 := by omega
          clear hr hsz
          go_wp2_with (first
            | (go_at_call 16; refine (hex_any _ _ hx6).mono ?_; rintro e w1 ⟨rfl, hb1⟩; have hown' := own_bel hown hb1; have hbw' := hbw.trans (hb1.mono hbs); have hbs' := hbw'.size)
            | (at_builtin; refine wpList_append_any _ rfl (.tmp 35) (.tmp 38) 46 rfl w.heap.size 9 i0 _ 1 16 Try.underlying46 hi0 hz0 hz1 hz2 rfl (by decide) _ k (((xs.take k).map hxB).map Value.string) rfl (hown'.alloc _) _ _ 1 1 [.string (hxB x)] rfl (reads_one _ _ _) (str_one _) (by unfold maxLen; omega) (by omega) (by simp; omega) ?_; intro v1 w2 hown1 hg1 _))
          have hb2 : Below w.heap.size w w2 := (hbw'.alloc hbs' _).grown hg1 (by first | (simp; done) | (simp; omega)) (fun g hg => own_ge hown' g hg)
          clear hg1
          go_roundw
          case rel => exact ⟨k + 1, by go_num, by omega, by rw [hT.out]; first | (simp; done) | (simp; omega), by rw [hT.out]; omega, by rw [hT2.out]; simpa using hown1, hb2⟩
          case measure => simp [intOf]; omega
      · obtain rfl : k = n := by omega
        have hlt' : ¬ (k : Int) < (k : Int) := by omega
        have hall : xs.take k = xs := List.take_of_length_le (by omega)
        rw [hall] at hown hcost
        obtain ⟨q1, q2, l', q3, q4⟩ := hexed (xs := xs) (by omega) hcost
        obtain ⟨A4, c4, rfl⟩ := own_form hown
        have hrd := Reads.of_own hown
        have hj := join_any A4 k c4 _ (xs.map hxB) wr hrd (Nat.le_refl _) hn (fun y hy => by
          obtain ⟨x, hx, rfl⟩ := List.mem_map.1 hy
          have := TopX.size_le_cost hx
          rw [← L_len]; show (hexL (L x)).length ≤ _; rw [hex_len, L_len]; omega)
        have hv : joiV (xs.map hxB) = lineV (xs.map hxB) := by unfold joiV; rw [if_pos q1]
        rw [q1, hv] at hj
        generalize hS : (⟨(lineV (xs.map hxB)).toArray⟩ : ByteArray) = S at *
        have hSs : S.size ≤ 2048 := by rw [← hS]; show (lineV (xs.map hxB)).toArray.size ≤ _; rw [List.size_toArray]; omega
        have hSl : L S = lineV (xs.map hxB) := by rw [← hS]
        have HC := Lib.hid hcost
        clear hS hv q1 q2 hall hcost hown hrd
        go_wp2_with (go_at_call 23; refine hj.mono ?_; rintro e w2 ⟨rfl, hb2⟩)
        have hbw2 := hbw.trans (hb2.mono hbs)
        have hbs2 := hbw2.size
        clear hj hb2 hbw
        have hf := fields_any S w2 hSs
        rw [hSl, q3] at hf
        have hll' : l'.length = k := by have := congrArg List.length q4; simpa [hll] using this
        have hf' := hf.mono (R' := fun e w' => Below w2.heap.size w2 w' ∧ ∃ A9 c9, e = .returned (.tuple #[.slice A9 k c9, .int .i64 0, .int .i64 0]) ∧ Reads w' w'.heap.size 2 A9 k (flatF l')) (fun e w' ⟨h1, v, h2, h3⟩ => by
          obtain ⟨A9, c9, rfl⟩ := own_form h3
          have h4 := Reads.of_own h3
          rw [hll'] at h2 h4
          exact ⟨h1, A9, c9, h2, h4⟩)
        clear hf
        go_wp2_with (go_at_call 24; refine hf'.mono ?_; rintro e w3 ⟨hb3, A9, c9, rfl, hr9⟩)
        have hbw3 := hbw2.trans (hb3.mono hbs2)
        have hbs3 := hbw3.size
        have hw39 : w.heap.size ≤ w3.heap.size := hbs3
        clear hf' hb3 hbw2 hSl hSs
        have hQ4 := Lib.hid q4; clear q4 q3
        go_loopw [12, 13, 14, 15, 67] (fun _ _ _ _ i w' => ∃ q : Nat, i = .int .i64 q ∧ q ≤ k ∧ Below w3.heap.size w3 w') (fun _ _ _ _ i _ => k - (intOf i).toNat)
        case atStart => exact ⟨0, rfl, Nat.zero_le _, Below.refl _ _⟩
        case round =>
          obtain ⟨q, rfl, hq, hbq⟩ := hrel
          have hbr := hbw3.trans (hbq.mono hw39)
          have hbrs := hbr.size
          by_cases hlt2 : q < k
          · have hlt2' : (q : Int) < (k : Int) := by omega
            have hql : q < l'.length := by omega
            have hqx : q < xs.length := by omega
            obtain ⟨a9, rfl, hrow⟩ := field_row (hr9.below hbq) hlt2 hql
            obtain ⟨ad, rfl, hcell⟩ := str_at (hr.below hbr) hlt2 hqx
            have e4 : l'[q].1 = hexL (L xs[q]) := by
              have := congrArg (·[q]?) hQ4.out
              simpa [hql, hqx] using this
            obtain ⟨u1, u2⟩ := unhx xs[q]
            have u3 := bytes_back xs[q]
            have hxq : (hxB xs[q]).size ≤ 4000000 := by
              have h1 := size_le_cost (List.getElem_mem hqx)
              have h2 := HC.out
              rw [← L_len]; show (hexL (L xs[q])).length ≤ _; rw [hex_len, L_len]; omega
            generalize hx0 : xs[q] = x at *
            generalize l'[q] = f at *
            obtain ⟨f1, f2⟩ := f
            simp only at e4
            subst e4
            have hUx := unhex_any (hxB x)
            rw [u1, u2, u3] at hUx
            clear u1 u2 u3 hr9 hsz hx0
            go_wp2_with (first
              | refine wpList_at_g rfl 52 _ rfl w3.heap.size _ (flA (hexL (L x), f2)) rfl _ hrow Try.underlying52 rfl (by kernel_rfl) ?_
              | refine wpList_store_new rfl 52 _ _ rfl rfl _ (flA (hexL (L x), f2)) rfl rfl _ _ _ rfl rfl rfl (by kernel_rfl) rfl ?_
              | (go_at_call 13; refine (hUx _ hxq).mono ?_; rintro e w5 ⟨rfl, hb5⟩; have hbr5 := (hbr.alloc hbrs _).trans (hb5.mono (by first | (simp; done) | (simp; omega))); have hcell5 := cell_keep hcell ((Below.refl wr.heap.size wr).alloc (Nat.le_refl _) _ |>.trans (hb5.mono (by first | (simp; done) | (simp; omega))))))
            go_roundw
            case rel => exact ⟨q + 1, by go_num, by omega, (hbq.alloc hbq.size _).trans (hb5.mono (by have := hbq.size; simp; omega))⟩
            case measure => simp [intOf]; omega
          · obtain rfl : q = k := by omega
            have hlt2' : ¬ (q : Int) < (q : Int) := by omega
            go_wp2
            go_ret
            exact ⟨rfl, hbr⟩
end Go.Proofs.Ytknnadihmodnfaa.TopX
