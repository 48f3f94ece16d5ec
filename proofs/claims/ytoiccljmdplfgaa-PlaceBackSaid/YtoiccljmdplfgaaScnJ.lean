/-
  scan's WRITING, WALKED: Join is a line that has these fields, or none.
-/
import Derived.Test.YtoiccljmdplfgaaScn
namespace Go.Proofs.Ytoiccljmdplfgaa.Scn
open Go.ChangeShapes Go.WideShapes Go.ChangeAt Go.RowKit
open Go.Proofs.Ytoiccljmdplfgaa
open Go.Proofs.Ytoiccljmdplfgaa.Wd
open Go.Proofs.Ytoiccljmdplfgaa.Pt (L L_len own_ge own_bel reads_one)
set_option linter.unusedVariables false
abbrev quoB (x : ByteArray) : ByteArray := ⟨(quoV (L x)).toArray⟩
def lineV (xs : List ByteArray) : List UInt8 := Lib.join ((xs.map quoB).map (·.data.toList)) [32]
def joiE (xs : List ByteArray) : Int := if 24 < xs.length then 6 else if xs.any (fun x => (L x).any badB) = true then 2 else if 2048 < (lineV xs).length then 6 else 0
def joiV (xs : List ByteArray) : List UInt8 := if joiE xs = 0 then lineV xs else []
theorem str_info : (Try.prog.info? 9).map (fun i => (i.zero, i.size, i.bytes)) = some (some (.string ⟨#[]⟩), 1, 16) := by kernel_rfl
theorem str_one (b : ByteArray) : ∀ u ∈ [Value.string b], u.oneCell' = true := by intro u hu; simp at hu; subst hu; rfl
theorem ret_err {xs : List ByteArray} {e : Int} (h : joiE xs = e) (h0 : e ≠ 0) : Ending.returned (.tuple #[.string ⟨#[]⟩, .int .i64 e]) = Ending.returned (.tuple #[.string ⟨(joiV xs).toArray⟩, .int .i64 (joiE xs)]) := by
  unfold joiV; rw [h, if_neg h0]
theorem ret_line {xs : List ByteArray} (h : joiE xs = 0) : Ending.returned (.tuple #[.string ⟨(lineV xs).toArray⟩, .int .i64 0]) = Ending.returned (.tuple #[.string ⟨(joiV xs).toArray⟩, .int .i64 (joiE xs)]) := by
  unfold joiV; rw [h, if_pos rfl]
theorem quo_len (l : List UInt8) : (quoV l).length ≤ l.length + 2 := by
  unfold quoV; split
  · simp
  · split <;> simp
abbrev rowQ (xs : List ByteArray) : List Value := (xs.map quoB).map Value.string
theorem str_at {w : World} {B n k : Nat} {A : Option Addr} {xs : List ByteArray} (h : Reads w B 1 A n (xs.map Value.string)) (hk : k < n) (hl : k < xs.length) : ∃ ad, A = some ad ∧ w.cell? (ad.add k) = some (.string xs[k]) := by
  obtain ⟨ad, u, rfl, _, hu, hc⟩ := h.at_ hk
  simp [hl] at hu
  subst hu
  exact ⟨ad, rfl, hc⟩
theorem own_lt2 {w : World} {base g n cap : Nat} {e : TypeId} {size : Nat} {xs : List Value} (h : w.ownsRow base e size (.slice (some ⟨g, 0, none⟩) n cap) n xs) : g < w.heap.size := by
  rcases h.2 with ⟨h', _⟩ | ⟨g', cap', cur, h1, h2, h3, _⟩
  · cases h'
  · injection h1 with h1
    injection h1 with h1
    injection h1 with h1
    subst h1
    exact (Array.getElem?_eq_some_iff.1 h3).1
theorem own_cap {w : World} {base g n cap : Nat} {e : TypeId} {size : Nat} {xs : List Value} (h : w.ownsRow base e size (.slice (some ⟨g, 0, none⟩) n cap) n xs) : n ≤ cap := by
  rcases h.2 with ⟨h', _⟩ | ⟨g', cap', cur, h1, h2, h3, h4, _⟩
  · cases h'
  · injection h1 with _ _ h1
    subst h1
    exact h4
theorem lens_join (xs : List (List UInt8)) (N : Nat) (h : ∀ x ∈ xs, x.length ≤ N) : (Lib.join xs [32]).length ≤ xs.length * (N + 1) := by
  match xs with
  | [] => simp [Lib.join_nil]
  | x :: r =>
    rw [Lib.join_cons, List.length_append]
    have hx := h x (by simp)
    have ht : (Lib.joinTail [32] r).length ≤ r.length * (N + 1) := by
      have hr : ∀ y ∈ r, y.length ≤ N := fun y hy => h y (by simp [hy])
      clear h hx
      induction r with
      | nil => simp [Lib.joinTail]
      | cons y r ih =>
        have := ih (fun z hz => hr z (by simp [hz]))
        have hy := hr y (by simp)
        simp only [Lib.joinTail, List.map_cons, List.flatten_cons, List.length_append, List.length_cons, List.length_nil] at *
        rw [Nat.add_mul]; omega
    rw [List.length_cons, Nat.add_mul]; omega
theorem line_len (xs : List ByteArray) (hn : xs.length ≤ 24) (hs : ∀ x ∈ xs, x.size ≤ 10000000) : (lineV xs).length ≤ 300000000 := by
  have := lens_join ((xs.map quoB).map (·.data.toList)) 10000002 (fun x hx => by
    obtain ⟨y, hy, rfl⟩ := List.mem_map.1 hx
    obtain ⟨z, hz, rfl⟩ := List.mem_map.1 hy
    have h1 := hs z hz
    have h2 := quo_len (L z)
    rw [L_len] at h2
    show (quoV (L z)).length ≤ _
    omega)
  unfold lineV
  simp only [List.length_map] at this
  have : xs.length * (10000002 + 1) ≤ 24 * 10000003 := Nat.mul_le_mul_right _ hn
  omega
set_option maxRecDepth 20000 in
set_option maxHeartbeats 3200000 in
theorem join_any (A : Option Addr) (n c B : Nat) (xs : List ByteArray) (w : World) (hr : Reads w B 1 A n (xs.map Value.string)) (hB : B ≤ w.heap.size) (hn : n ≤ 9223372036854775807) (hs : ∀ x ∈ xs, x.size ≤ 10000000) :
    Calls Try.prog 65 #[.slice A n c] w fun e w' => e = .returned (.tuple #[.string ⟨(joiV xs).toArray⟩, .int .i64 (joiE xs)]) ∧ Below w.heap.size w w' := by
  have hll : xs.length = n := by have := hr.1; simpa using this
  by_cases h24 : 24 < n
  · have h24' : (24 : Int) < (n : Int) := by omega
    have he := Lib.hid (show joiE xs = 6 by unfold joiE; rw [if_pos (by omega)])
    clear hr
    go_enter Try.func65, Try.ntmps65
    go_wp2
    go_ret2
    exact ⟨ret_err he.out (by decide), Below.refl _ _⟩
  · have h24' : ¬ (24 : Int) < (n : Int) := by omega
    obtain ⟨i0, hi0, hz0, hz1, hz2⟩ := info_parts str_info
    go_enter Try.func65, Try.ntmps65
    go_wp2_with (at_make; refine wpList_make_own _ rfl _ _ 143 rfl w.heap.size 9 i0 (.string ⟨#[]⟩) 1 Try.underlying143 hi0 hz0 hz1 .i64 .i64 _ n rfl rfl (by omega) (by rw [hz2]; omega) (by unfold maxLen; omega) (Nat.le_refl _) ?_; intro w0 hown0 hgrow0)
    have hb0 : Below w.heap.size w w0 := (Below.refl _ _).grown hgrow0 (Nat.le_refl _) (by simp)
    clear hgrow0
    go_loopw [4, 6, 7, 8, 18] (fun v _ _ _ i w' => ∃ k : Nat, i = .int .i64 k ∧ k ≤ n ∧ (xs.take k).any (fun x => (L x).any badB) = false ∧ w'.ownsRow w.heap.size 9 1 v k (rowQ (xs.take k)) ∧ Below w.heap.size w w') (fun _ _ _ _ i _ => n - (intOf i).toNat)
    case atStart => exact ⟨0, rfl, Nat.zero_le _, by simp, by simpa using hown0, hb0⟩
    case round =>
      obtain ⟨k, rfl, hk, hbd, hown, hbw⟩ := hrel
      have HB := Lib.hid hbd; clear hbd
      have hsz := hbw.size
      by_cases hlt : k < n
      · have hlt' : (k : Int) < (n : Int) := by omega
        have hkl : k < xs.length := by omega
        obtain ⟨ad, rfl, hcell⟩ := str_at (hr.keep fun p hp => hbw.cell (show p.block < w.heap.size by omega)) hlt hkl
        have hT := Lib.hid (List.take_succ_eq_append_getElem hkl)
        have hxs := hs _ (List.getElem_mem hkl)
        have hmem := Lib.hid (List.getElem_mem hkl)
        generalize xs[k] = x at *
        cases hq : (L x).any badB with
        | true =>
          have he := Lib.hid (show joiE xs = 2 by unfold joiE; rw [if_neg (by omega), if_pos (List.any_eq_true.2 ⟨x, hmem.out, hq⟩)])
          have q1 : quoE (L x) = 2 := by unfold quoE; rw [if_pos hq]
          clear hq hr
          go_wp2_with (go_at_call 86; refine (quote_any _ _ (by omega)).mono ?_; rintro e w1 ⟨rfl, rfl⟩; rw [q1])
          go_ret2
          exact ⟨ret_err he.out (by decide), hbw⟩
        | false =>
          have q1 : quoE (L x) = 0 := by unfold quoE; rw [hq]; rfl
          have HQ := Lib.hid hq
          clear hq hr
          go_wp2_with (first
            | (go_at_call 86; refine (quote_any _ _ (by omega)).mono ?_; rintro e w1 ⟨rfl, rfl⟩; rw [q1])
            | (at_builtin; refine wpList_append_any _ rfl (.tmp 30) (.tmp 32) 143 rfl w.heap.size 9 i0 _ 1 16 Try.underlying143 hi0 hz0 hz1 hz2 rfl (by decide) _ k (rowQ (xs.take k)) rfl (hown.alloc _) _ _ 1 1 [.string (quoB x)] rfl (reads_one _ _ _) (str_one _) (by unfold maxLen; omega) (by omega) (by simp; omega) ?_; intro v1 w1 hown1 hg1 _))
          have hb1 : Below w.heap.size w w1 := (hbw.alloc hbw.size _).grown hg1 (by simp; omega) (fun g hg => own_ge hown g hg)
          clear hg1
          go_roundw
          case rel => exact ⟨k + 1, by go_num, by omega, by rw [hT.out, List.any_append, HB.out]; show (false || ((L x).any badB || false)) = false; rw [HQ.out]; rfl, by rw [hT.out]; simpa using hown1, hb1⟩
          case measure => simp [intOf]; omega
      · obtain rfl : k = n := by omega
        have hlt' : ¬ (k : Int) < (k : Int) := by omega
        have hall : xs.take k = xs := List.take_of_length_le (by omega)
        rw [hall] at hown
        have hb := HB.out
        rw [hall] at hb
        have hb2 := Lib.hid hb; clear hb
        have hlen : (lineV xs).length ≤ 300000000 := line_len xs (by omega) hs
        have HL := Lib.hid hlen
        have hq24 := Lib.hid (show ¬ 24 < xs.length by omega)
        rcases Joins.ownsRow_forms hown with ⟨rfl, h0⟩ | ⟨g, cap, rfl⟩
        · have hx0 : xs = [] := List.eq_nil_of_length_eq_zero (by omega)
          have he := Lib.hid (show joiE xs = 0 by rw [hx0]; rfl)
          have hv := Lib.hid (show (⟨#[]⟩ : ByteArray) = ⟨(lineV xs).toArray⟩ by rw [hx0]; rfl)
          subst h0
          go_wp2_with (go_at_call 87; refine (Try.strings_Join_none none 0 _ _).mono ?_; rintro e w1 ⟨rfl, rfl⟩)
          go_ret2
          refine ⟨?_, hbw⟩
          have := ret_line he.out
          rw [← hv.out] at this
          exact this
        · have hcells : ∀ (j : Nat) x, (xs.map quoB)[j]? = some x → wr.cell? ⟨g, 0 + j, none⟩ = some (.string x) := fun j x hx => by
            have := hown.cells (g := g) rfl j (.string x) (by rw [List.getElem?_map, hx]; rfl)
            have e : (⟨g, 0, none⟩ : Addr).add j = ⟨g, 0 + j, none⟩ := by unfold Addr.add; split <;> simp_all
            rwa [e] at this
          have hlq : (xs.map quoB).length = k := by rw [List.length_map, hll]
          have hgl := (own_lt2 hown)
          have hcap := own_cap hown
          have hjl : (Lib.join ((xs.map quoB).map (·.data.toList)) ([32] : List UInt8)).length ≤ 140737488355328 := by have := HL.out; unfold lineV at this; omega
          have hJ := Try.strings_Join g 0 cap (xs.map quoB) ⟨#[32]⟩ wr hcells hgl (by rw [hlq]; omega) (by rw [hlq]; exact hcap) hjl
          rw [hlq] at hJ
          have hJ' : Calls Try.prog 87 #[.slice (some ⟨g, 0, none⟩) k cap, .string ⟨#[32]⟩] wr fun e w' => e = .returned (.string ⟨(lineV xs).toArray⟩) ∧ Below wr.heap.size wr w' := hJ
          clear hJ hcells hown
          by_cases h2048 : 2048 < (lineV xs).length
          · have hsz2 : (2048 : Int) < (((lineV xs).length : Nat) : Int) := by omega
            have he := Lib.hid (show joiE xs = 6 by unfold joiE; rw [if_neg hq24.out, if_neg (by rw [hb2.out]; decide), if_pos h2048])
            clear h2048
            go_wp2_with (go_at_call 87; refine hJ'.mono ?_; rintro e w1 ⟨rfl, hb1⟩)
            go_ret2
            exact ⟨ret_err he.out (by decide), hbw.trans (hb1.mono hsz)⟩
          · have hsz2 : ¬ (2048 : Int) < (((lineV xs).length : Nat) : Int) := by omega
            have he := Lib.hid (show joiE xs = 0 by unfold joiE; rw [if_neg hq24.out, if_neg (by rw [hb2.out]; decide), if_neg h2048])
            clear h2048
            go_wp2_with (go_at_call 87; refine hJ'.mono ?_; rintro e w1 ⟨rfl, hb1⟩)
            go_ret2
            exact ⟨ret_line he.out, hbw.trans (hb1.mono hsz)⟩
end Go.Proofs.Ytoiccljmdplfgaa.Scn
