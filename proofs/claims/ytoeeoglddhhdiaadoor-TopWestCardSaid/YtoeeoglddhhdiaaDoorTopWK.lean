/-
  YEARS, in plain Lean: a record with more minutes of Bias turns as much later.
-/
import Derived.Test.YtoeeoglddhhdiaaDoorYrA
namespace Go.Proofs.YtoeeoglddhhdiaaDoor.Yr
open Go.ChangeShapes Go.WideShapes Go.ChangeAt Go.RowKit
open Go.Proofs.YtoeeoglddhhdiaaDoor
open Go.Proofs.YtoeeoglddhhdiaaDoor.Rec
set_option linter.unusedVariables false
/-- a turn, and the one of the record further west -/
def Later (x z L : Int) : Prop := (z = x + L ∧ -2305843009213693952 ≤ x ∧ x ≤ 2305843009213693952) ∨ (x = 4611686018427387904 ∧ z = 4611686018427387904)
theorem sum_west {a a' b b' t L : Int} (ha : Later a a' L) (hb : Later b b' L) (hL : -4194304 ≤ L ∧ L ≤ 4194304) (ht : -35184372088832 ≤ t ∧ t ≤ 35184372088832) : sumB a' b' (t + L) = sumB a b t := by
  unfold Later at ha hb
  have h1 : (a' < b') ↔ (a < b) := by omega
  have h2 : (b' < a') ↔ (b < a) := by omega
  have h3 : (a' ≤ t + L) ↔ (a ≤ t) := by omega
  have h4 : (t + L < b') ↔ (t < b) := by omega
  unfold sumB
  simp only [h1, h2, h3, h4]
theorem sec_west {s : St} (B : s.Bd) (Y o L : Int) (ho : -86400 ≤ o ∧ o ≤ 86400) : Later (secV s Y o) (secV s Y (o - L)) L := by
  unfold Later secV
  by_cases h : leS s Y = 0
  · rw [if_pos h, if_pos h]
    have := lc_bd B h
    left; omega
  · rw [if_neg h, if_neg h]; right; exact ⟨rfl, rfl⟩
theorem rc_near {b c d : Int} {p q : St} (h : rcOk b c d p q = true) : (-86400 ≤ offS b c ∧ offS b c ≤ 86400) ∧ (-86400 ≤ offS b d ∧ offS b d ≤ 86400) := by
  unfold rcOk at h
  rw [Bool.and_eq_true, Bool.and_eq_true, Bool.and_eq_true] at h
  have h4 := h.2.2.2
  simp only [List.all_cons, List.all_nil, Bool.and_true, Bool.and_eq_true] at h4
  exact ⟨near_iff h4.1, near_iff h4.2⟩
theorem west_bias {b m c d : Int} {p q : St} (hb : -2147483648 ≤ b ∧ b ≤ 2147483647) (hm : -32768 ≤ m ∧ m ≤ 32767) (hc : -2147483648 ≤ c ∧ c ≤ 2147483647) (h : rcOk b c d p q = true) (h2 : rcOk (IntKind.i32.wrap (b + m)) c d p q = true) : IntKind.i32.wrap (b + m) = b + m := by
  have n1 := (rc_near h).1
  have n2 := (rc_near h2).1
  unfold offS at n1 n2
  have e : IntKind.i32.wrap (b + m) = b + m ∨ IntKind.i32.wrap (b + m) = b + m - 4294967296 ∨ IntKind.i32.wrap (b + m) = b + m + 4294967296 := by
    simp only [IntKind.wrap, IntKind.bits, IntKind.signed]
    simp
    omega
  omega
theorem west_b {b m b2 c d : Int} {p q : St} (hw : wrap32 (b + m) = b2) (hb : -2147483648 ≤ b ∧ b ≤ 2147483647) (hm : -32768 ≤ m ∧ m ≤ 32767) (h : rcOk b c d p q = true) (h2 : rcOk b2 c d p q = true) : b2 = b + m := by
  subst hw
  have n1 := (rc_near h).1
  have n2 := (rc_near h2).1
  unfold offS at n1 n2
  unfold wrap32 at *
  omega
theorem west_pack {b m b2 c d Y t : Int} {p q : St} (B : RBd b c d p q) (B2 : RBd b2 c d p q) (hw : wrap32 (b + m) = b2) (hm : -32768 ≤ m ∧ m ≤ 32767) (h : rcOk b c d p q = true) (h2 : rcOk b2 c d p q = true)
    (hY : 1601 ≤ Y ∧ Y ≤ 9999) (ht : -35184372088832 ≤ t ∧ t ≤ 35184372088832) : ∃ (s1 s2 z1 z2 o1 : Int) (k : Bool),
    (∀ w, Civ.Tab w → Calls Tryd.prog 40 #[rcV b c d p q, .int .i64 Y] w fun e w' => e = .returned (.tuple #[.int .i64 s1, .int .i64 s2, .int .i64 0]) ∧ Below w.heap.size w w') ∧
    (∀ w, Civ.Tab w → Calls Tryd.prog 40 #[rcV b2 c d p q, .int .i64 Y] w fun e w' => e = .returned (.tuple #[.int .i64 z1, .int .i64 z2, .int .i64 0]) ∧ Below w.heap.size w w') ∧
    (∀ w, Civ.Tab w → Calls Tryd.prog 24 #[rcV b c d p q, .int .i64 Y, .int .i64 t] w fun e w' => e = .returned (.tuple #[stateV o1 k, .int .i64 0]) ∧ Below w.heap.size w w') ∧
    (∀ w, Civ.Tab w → Calls Tryd.prog 24 #[rcV b2 c d p q, .int .i64 Y, .int .i64 (t + 60 * m)] w fun e w' => e = .returned (.tuple #[stateV (o1 - 60 * m) k, .int .i64 0]) ∧ Below w.heap.size w w') ∧
    Later s1 z1 (60 * m) ∧ Later s2 z2 (60 * m) ∧ (-86400 ≤ o1 ∧ o1 ≤ 86400) := by
  have hb2 := west_b hw B.b hm h h2
  clear hw
  subst hb2
  have n := rc_near h
  have e1 : trE b c d p q Y = 0 := by unfold trE; rw [if_neg (by rw [h]; decide), if_neg (by simpa using hY)]
  have e2 : trE (b + m) c d p q Y = 0 := by unfold trE; rw [if_neg (by rw [h2]; decide), if_neg (by simpa using hY)]
  have oc : offS (b + m) c = offS b c - 60 * m := by unfold offS; omega
  have od : offS (b + m) d = offS b d - 60 * m := by unfold offS; omega
  have L1 : Later (trA b c d p q Y) (trA (b + m) c d p q Y) (60 * m) := by
    unfold trA; rw [if_pos e1, if_pos e2, oc]; exact sec_west B.q Y _ _ n.1
  have L2 : Later (trB b c d p q Y) (trB (b + m) c d p q Y) (60 * m) := by
    unfold trB; rw [if_pos e1, if_pos e2, od]; exact sec_west B.p Y _ _ n.2
  have hs := sum_west (t := t) L1 L2 (by omega) ht
  refine ⟨trA b c d p q Y, trB b c d p q Y, trA (b + m) c d p q Y, trB (b + m) c d p q Y, atO b c d p q Y t, atB b c d p q Y t, fun w hT => ?_, fun w hT => ?_, fun w hT => ?_, fun w hT => ?_, L1, L2, ?_⟩
  · have := Turns_any b c d p q Y w hT B; rwa [e1] at this
  · have := Turns_any (b + m) c d p q Y w hT B2; rwa [e2] at this
  · have := At_any b c d p q Y t w hT B; rwa [e1] at this
  · have := At_any (b + m) c d p q Y (t + 60 * m) w hT B2
    have ho : atO (b + m) c d p q Y (t + 60 * m) = atO b c d p q Y t - 60 * m := by
      unfold atO; rw [if_pos e1, if_pos e2]; unfold stO; rw [hs]
      cases sumB (trA b c d p q Y) (trB b c d p q Y) t
      · exact oc
      · exact od
    have hk : atB (b + m) c d p q Y (t + 60 * m) = atB b c d p q Y t := by unfold atB; rw [if_pos e1, if_pos e2]; exact hs
    rwa [e2, ho, hk] at this
  · unfold atO stO; rw [if_pos e1]; split <;> omega
end Go.Proofs.YtoeeoglddhhdiaaDoor.Yr
