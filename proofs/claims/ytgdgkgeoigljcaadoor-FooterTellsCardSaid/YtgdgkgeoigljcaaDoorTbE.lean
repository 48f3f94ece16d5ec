/-
  LOCAL: a table of one record, states compared.
-/
import Derived.Test.YtgdgkgeoigljcaaDoorTbA
namespace Go.Proofs.YtgdgkgeoigljcaaDoor.Tb
open Go.ChangeShapes Go.WideShapes Go.ChangeAt Go.RowKit
open Go.Proofs.YtgdgkgeoigljcaaDoor
open Go.Proofs.YtgdgkgeoigljcaaDoor.Wd
open Go.Proofs.YtgdgkgeoigljcaaDoor.Rec
open Go.Proofs.YtgdgkgeoigljcaaDoor.Yr
open Go.Proofs.YtgdgkgeoigljcaaDoor.Civ (Tab Inv)
set_option linter.unusedVariables false
theorem recs_one {w : World} {g : Nat} {t : TypeId} {r : Rc} (x : Blk w g t r.A) (B : r.Bd) : Recs w w.heap.size (some ⟨g, 0, none⟩) 1 [r] := by
  refine ⟨rfl, ⟨by rw [flat_len]; rfl, fun _ => ⟨_, rfl, x.lt, fun j u hu => ?_⟩⟩, fun r' hr => by rw [List.mem_singleton.1 hr]; exact B⟩
  have hj : j < 19 := by
    rcases Nat.lt_or_ge j 19 with h | h
    · exact h
    · rw [List.getElem?_eq_none (by rw [flat_len]; exact h)] at hu; cases hu
  have := flat_at [r] 0 j (show 0 < 1 by decide) hj
  rw [Nat.mul_zero, Nat.zero_add] at this
  rw [this] at hu
  have e : (⟨g, 0, none⟩ : Addr).add j = ⟨g, j, none⟩ := by unfold Addr.add; split <;> simp_all
  rw [e, x.cell]; exact hu
def eqT (o : Int) (k : Bool) (o' : Int) (k' : Bool) : Bool := o == o' && k == k'
theorem eqIn_sta (d : Nat) (o o' : Int) (k k' : Bool) (w : World) : (Op.equalIn (d + 2) 81 (stateV o k) (stateV o' k')).run Tryd.prog w = .ok (eqT o k o' k') w := by
  rw [run_equalIn_agg w (d + 1) _ (stA0 o k) (stA0 o' k') (by kernel_rfl) (by kernel_rfl)]
  go_simp
  unfold eqT
  by_cases h : o = o' <;> cases k <;> cases k' <;> simp [h]
theorem eq_sta (o o' : Int) (k k' : Bool) (w : World) : (binOp .eql 81 (stateV o k) (stateV o' k')).run Tryd.prog w = .ok (.bool (eqT o k o' k')) w := by
  rw [run_eql_struct, eqIn_sta 9998]; rfl
end Go.Proofs.YtgdgkgeoigljcaaDoor.Tb
