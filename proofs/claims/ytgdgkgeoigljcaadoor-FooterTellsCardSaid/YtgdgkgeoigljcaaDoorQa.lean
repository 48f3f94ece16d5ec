/-
  RECORDS: record's small functions, walked: which offsets are not too far, and whole minutes; a record's offsets.
-/
import Derived.Test.YtgdgkgeoigljcaaDoorStp
import Derived.Test.YtgdgkgeoigljcaaDoorWords
import Derived.Deep.QuietTactic
import Derived.BigQuiet
namespace Go.Proofs.YtgdgkgeoigljcaaDoor.Rec
open Go.ChangeShapes Go.WideShapes Go.ChangeAt Go.RowKit
open Go.Proofs.YtgdgkgeoigljcaaDoor
open Go.Proofs.YtgdgkgeoigljcaaDoor.Wd
open Go.Proofs.YtgdgkgeoigljcaaDoor.Stp (stV Bd chkS zeroS okS)
set_option linter.unusedVariables false
/-- a stamp's numbers -/
structure St where
  y : Int
  m : Int
  v : Int
  d : Int
  h : Int
  i : Int
  s : Int
  u : Int
abbrev St.val (x : St) : Value := stV x.y x.m x.v x.d x.h x.i x.s x.u
abbrev St.Bd (x : St) : Prop := Stp.Bd x.y x.m x.v x.d x.h x.i x.s x.u
abbrev St.chk (x : St) : Int := chkS x.y x.m x.v x.d x.h x.i x.s x.u
abbrev St.zero (x : St) : Bool := zeroS x.y x.m x.v x.d x.h x.i x.s x.u
abbrev rcV (b c d : Int) (p q : St) : Value := .agg #[.int .i32 b, .int .i32 c, .int .i32 d, .int .u16 p.y, .int .u16 p.m, .int .u16 p.v, .int .u16 p.d, .int .u16 p.h, .int .u16 p.i, .int .u16 p.s, .int .u16 p.u, .int .u16 q.y, .int .u16 q.m, .int .u16 q.v, .int .u16 q.d, .int .u16 q.h, .int .u16 q.i, .int .u16 q.s, .int .u16 q.u]
structure RBd (b c d : Int) (p q : St) : Prop where
  b : -2147483648 ≤ b ∧ b ≤ 2147483647
  c : -2147483648 ≤ c ∧ c ≤ 2147483647
  d : -2147483648 ≤ d ∧ d ≤ 2147483647
  p : p.Bd
  q : q.Bd
def near (z : Int) : Bool := decide (-86400 ≤ z ∧ z ≤ 86400)
def wholeM (z : Int) : Bool := decide (z % 60 = 0)
theorem int_at {w : World} {B n k : Nat} {A : Option Addr} {t : IntKind} {xs : List Int} (h : Reads w B 1 A n (xs.map (Value.int t))) (hk : k < n) (hl : k < xs.length) : ∃ ad, A = some ad ∧ w.cell? (ad.add k) = some (.int t xs[k]) := by
  obtain ⟨ad, u, rfl, _, hu, hc⟩ := h.at_ hk
  simp [hl] at hu
  subst hu
  exact ⟨ad, rfl, hc⟩
theorem all_take {p : Int → Bool} {l : List Int} {k : Nat} (h : k < l.length) : (l.take (k + 1)).all p = ((l.take k).all p && p l[k]) := by
  rw [List.take_succ_eq_append_getElem h, List.all_append]; simp
theorem all_no {p : Int → Bool} {l : List Int} {k : Nat} (h : k < l.length) (hp : p l[k] = false) : l.all p = false := by
  rw [List.all_eq_false]; exact ⟨l[k], List.getElem_mem h, by rw [hp]; decide⟩
set_option maxRecDepth 20000 in
set_option maxHeartbeats 1600000 in
theorem inside_any (A : Option Addr) (n c B : Nat) (xs : List Int) (w : World) (hr : Reads w B 1 A n (xs.map (Value.int .i64))) (hn : n ≤ 100) :
    Calls Tryd.prog 43 #[.slice A n c] w fun e w' => e = .returned (.bool (xs.all near)) ∧ w' = w := by
  have hll : xs.length = n := by have := hr.1; simpa using this
  go_enter Tryd.func43, Tryd.ntmps43
  go_wp2
  go_loopw [4, 7] (fun _ i w' => ∃ k : Nat, i = .int .i64 k ∧ k ≤ n ∧ (xs.take k).all near = true ∧ w' = w) (fun _ i _ => n - (intOf i).toNat)
  case atStart => exact ⟨0, rfl, Nat.zero_le _, by simp, rfl⟩
  case round =>
    obtain ⟨k, rfl, hk, hall, rfl⟩ := hrel
    have HA := Lib.hid hall; clear hall
    by_cases hlt : k < n
    · have hlt' : (k : Int) < (n : Int) := by omega
      have hkl : k < xs.length := by omega
      obtain ⟨ad, rfl, hcell⟩ := int_at hr hlt hkl
      have hT := Lib.hid (all_take (p := near) hkl)
      have hNo := Lib.hid (all_no (p := near) hkl)
      generalize xs[k] = z at *
      by_cases h1 : z < -86400
      · have HF := Lib.hid (hNo.out (by unfold near; simp; omega))
        go_wp2
        go_ret
        exact ⟨by rw [HF.out]; rfl, rfl⟩
      · by_cases h2 : 86400 < z
        · have HF := Lib.hid (hNo.out (by unfold near; simp; omega))
          go_wp2
          go_ret
          exact ⟨by rw [HF.out]; rfl, rfl⟩
        · have hz : near z = true := by unfold near; simp; omega
          go_wp2
          go_roundw
          case rel => exact ⟨k + 1, by go_num, by omega, by rw [hT.out, HA.out, hz]; rfl, trivial⟩
          case measure => simp [intOf]; omega
    · obtain rfl : k = n := by omega
      have hlt' : ¬ (k : Int) < (k : Int) := by omega
      have hf := HA.out
      rw [List.take_of_length_le (by omega)] at hf
      have HF := Lib.hid hf; clear hf
      go_wp2
      go_ret
      exact ⟨by rw [HF.out]; rfl, rfl⟩
def offS (b c : Int) : Int := -60 * (b + c)
set_option maxRecDepth 20000 in
set_option maxHeartbeats 1600000 in
theorem offs_any (b c d : Int) (p q : St) (w : World) (B : RBd b c d p q) :
    Calls Tryd.prog 16 #[rcV b c d p q] w fun e w' => e = .returned (.tuple #[.int .i64 (offS b c), .int .i64 (offS b d)]) ∧ Below w.heap.size w w' := by
  obtain ⟨⟨b1, b2⟩, ⟨c1, c2⟩, ⟨d1, d2⟩, _, _⟩ := B
  unfold offS
  go_enter Tryd.func16, Tryd.ntmps16
  go_wp2
  go_quiet (fail)
  go_wp2
  go_ret2
  exact ⟨rfl, bdrewN ((Below.refl _ _).alloc (Nat.le_refl _) _) _⟩
end Go.Proofs.YtgdgkgeoigljcaaDoor.Rec
