/-
  THE CLOCK's FUNCTIONS, WALKED: Split, Year, At.
-/
import Derived.Test.YtoklcbkphipmkaaDoorCv
namespace Go.Proofs.YtoklcbkphipmkaaDoor.Clk
open Go.ChangeShapes Go.WideShapes Go.ChangeAt Go.RowKit
open Go.Proofs.YtoklcbkphipmkaaDoor
open Go.Proofs.YtoklcbkphipmkaaDoor.Civ (Tab bcell ret_bool ret_int ret_two Inv)
set_option linter.unusedVariables false
theorem ret_pair {a b c d : Int} (h : a = b) (h' : c = d) : Ending.returned (.tuple #[.int .i64 a, .int .i64 c]) = Ending.returned (.tuple #[.int .i64 b, .int .i64 d]) := by rw [h, h']
theorem split_neg (t : Int) (h : t < 0) : t.tdiv 86400 = -((-t) / 86400) ∧ t.tmod 86400 = -((-t) % 86400) := by
  have h1 := Int.neg_tdiv (-t) 86400
  have h2 := Int.neg_tmod (-t) 86400
  rw [Int.neg_neg] at h1 h2
  rw [h1, h2, Int.tdiv_eq_ediv_of_nonneg (by omega), Int.tmod_eq_emod_of_nonneg (by omega)]
  exact ⟨rfl, rfl⟩
set_option maxHeartbeats 800000 in
theorem split_any (t : Int) (w : World) (hlo : -9223372036854775808 ≤ t) (hhi : t ≤ 9223372036854775807) :
    Calls Tryd.prog 53 #[.int .i64 t] w fun e w' => e = .returned (.tuple #[.int .i64 (t / 86400), .int .i64 (t % 86400)]) ∧ w = w' := by
  by_cases h : 0 ≤ t
  · have hm : ¬ t % 86400 < 0 := by omega
    clear hlo
    go_enter Tryd.func53, Tryd.ntmps53
    go_wp2
    go_ret2
    exact ⟨rfl, rfl⟩
  · obtain ⟨e1, e2⟩ := split_neg t (by omega)
    have E1 := Lib.hid e1; have E2 := Lib.hid e2
    have b1 : -106751991167301 ≤ t.tdiv 86400 ∧ t.tdiv 86400 ≤ 0 := by rw [e1]; omega
    have b2 : -86399 ≤ t.tmod 86400 ∧ t.tmod 86400 ≤ 0 := by rw [e2]; omega
    obtain ⟨b11, b12⟩ := b1
    obtain ⟨b21, b22⟩ := b2
    clear e1 e2 hhi hlo
    by_cases hm : t.tmod 86400 < 0
    all_goals
      go_enter Tryd.func53, Tryd.ntmps53
      go_wp2
      go_ret2
      have e1 := E1.out; have e2 := E2.out
      exact ⟨ret_pair (by omega) (by omega), rfl⟩
def yrV (t : Int) : Int := Cal.ofYV (t / 86400)
def yrE (t : Int) : Int := Cal.ofE (t / 86400)
theorem ofE_01 (n : Int) : Cal.ofE n = 0 ∨ (Cal.ofE n = 1 ∧ Cal.ofYV n = 0) := by
  unfold Cal.ofE Cal.ofYV
  cases Cal.okN n <;> simp
set_option maxHeartbeats 800000 in
theorem year_any (t : Int) (w : World) (hlo : -9223372036854775808 ≤ t) (hhi : t ≤ 9223372036854775807) :
    Calls Tryd.prog 31 #[.int .i64 t] w fun e w' => e = .returned (.tuple #[.int .i64 (yrV t), .int .i64 (yrE t)]) ∧ Below w.heap.size w w' := by
  unfold yrV yrE
  rcases ofE_01 (t / 86400) with h | ⟨h, h2⟩
  · go_enter Tryd.func31, Tryd.ntmps31
    go_wp2_with fail
    refine (split_any _ _ hlo hhi).mono ?_; rintro e w1 ⟨rfl, rfl⟩
    go_wp2_with fail
    refine (Civ.of_any _ _).mono ?_; rintro e w1 ⟨rfl, hb1⟩
    go_wp2_with fail
    go_ret2
    exact ⟨ret_pair rfl h.symm, hb1.alloc hb1.size _⟩
  · go_enter Tryd.func31, Tryd.ntmps31
    go_wp2_with fail
    refine (split_any _ _ hlo hhi).mono ?_; rintro e w1 ⟨rfl, rfl⟩
    go_wp2_with fail
    refine (Civ.of_any _ _).mono ?_; rintro e w1 ⟨rfl, hb1⟩
    go_wp2_with fail
    go_ret2
    exact ⟨ret_pair h2.symm h.symm, hb1.alloc hb1.size _⟩
def okS (s : Int) : Bool := decide (-604800 ≤ s ∧ s ≤ 604800)
theorem time_any (s : Int) (w : World) :
    Calls Tryd.prog 52 #[.int .i64 s] w fun e w' => e = .returned (.bool (okS s)) ∧ w = w' := by
  unfold okS
  by_cases h : -604800 ≤ s
  · by_cases h2 : s ≤ 604800
    · have e : decide (-604800 ≤ s ∧ s ≤ 604800) = true := by simp [h, h2]
      rw [e]; clear e
      go_enter Tryd.func52, Tryd.ntmps52
      go_wp2
      go_ret
      exact ⟨ret_bool (by simp), rfl⟩
    · have e : decide (-604800 ≤ s ∧ s ≤ 604800) = false := by simp [h2]
      rw [e]; clear e
      go_enter Tryd.func52, Tryd.ntmps52
      go_wp2
      go_ret
      exact ⟨ret_bool (by simp), rfl⟩
  · have e : decide (-604800 ≤ s ∧ s ≤ 604800) = false := by simp [h]
    rw [e]; clear e
    go_enter Tryd.func52, Tryd.ntmps52
    go_wp2
    go_ret
    exact ⟨ret_bool (by simp), rfl⟩
def atOk (d s : Int) : Bool := Cal.okN d && okS s
def atV (d s : Int) : Int := if atOk d s = true then d * 86400 + s else 0
def atE (d s : Int) : Int := if atOk d s = true then 0 else 1
set_option maxHeartbeats 800000 in
theorem at_any (d s : Int) (w : World) :
    Calls Tryd.prog 30 #[.int .i64 d, .int .i64 s] w fun e w' => e = .returned (.tuple #[.int .i64 (atV d s), .int .i64 (atE d s)]) ∧ Below w.heap.size w w' := by
  cases hd : Cal.okN d
  · have hE : Cal.ofE d = 1 := by unfold Cal.ofE; rw [hd]; rfl
    have H : atV d s = 0 ∧ atE d s = 1 := by unfold atV atE atOk; rw [hd]; exact ⟨rfl, rfl⟩
    have HH := Lib.hid H; clear H hd
    go_enter Tryd.func30, Tryd.ntmps30
    go_wp2_with fail
    refine (Civ.of_any _ _).mono ?_; rintro e w1 ⟨rfl, hb1⟩
    rw [hE]
    go_wp2_with fail
    go_ret2
    exact ⟨ret_pair HH.out.1.symm HH.out.2.symm, hb1.alloc hb1.size _⟩
  · have hE : Cal.ofE d = 0 := by unfold Cal.ofE; rw [hd]; rfl
    have hb := (Cal.okN_iff d).1 hd
    obtain ⟨hb2, hb3⟩ := hb
    cases hs : okS s
    · have H : atV d s = 0 ∧ atE d s = 1 := by unfold atV atE atOk; rw [hd, hs]; exact ⟨rfl, rfl⟩
      have HH := Lib.hid H; clear H hd
      go_enter Tryd.func30, Tryd.ntmps30
      go_wp2_with fail
      refine (Civ.of_any _ _).mono ?_; rintro e w1 ⟨rfl, hb1⟩
      rw [hE]
      go_wp2_with fail
      refine (time_any _ _).mono ?_; rintro e w2 ⟨rfl, rfl⟩
      go_wp2_with fail
      go_ret2
      exact ⟨ret_pair HH.out.1.symm HH.out.2.symm, hb1.alloc hb1.size _⟩
    · have H : atV d s = d * 86400 + s ∧ atE d s = 0 := by unfold atV atE atOk; rw [hd, hs]; exact ⟨rfl, rfl⟩
      have hsb : -604800 ≤ s ∧ s ≤ 604800 := by unfold okS at hs; simpa using hs
      obtain ⟨hs1, hs2⟩ := hsb
      have HH := Lib.hid H; clear H hd
      go_enter Tryd.func30, Tryd.ntmps30
      go_wp2_with fail
      refine (Civ.of_any _ _).mono ?_; rintro e w1 ⟨rfl, hb1⟩
      rw [hE]
      go_wp2_with fail
      refine (time_any _ _).mono ?_; rintro e w2 ⟨rfl, rfl⟩
      go_wp2_with fail
      go_ret2
      exact ⟨ret_pair HH.out.1.symm HH.out.2.symm, hb1.alloc hb1.size _⟩
end Go.Proofs.YtoklcbkphipmkaaDoor.Clk
