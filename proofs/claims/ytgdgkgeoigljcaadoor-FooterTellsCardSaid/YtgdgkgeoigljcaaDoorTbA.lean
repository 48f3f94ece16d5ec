/-
  TABLES: cells at an address; a slice of records, and each record of it.
-/
import Derived.Test.YtgdgkgeoigljcaaDoorTbM
namespace Go.Proofs.YtgdgkgeoigljcaaDoor.Tb
open Go.ChangeShapes Go.WideShapes Go.ChangeAt Go.RowKit
open Go.Proofs.YtgdgkgeoigljcaaDoor
open Go.Proofs.YtgdgkgeoigljcaaDoor.Wd
open Go.Proofs.YtgdgkgeoigljcaaDoor.Rec
open Go.Proofs.YtgdgkgeoigljcaaDoor.Civ (Tab Inv)
set_option linter.unusedVariables false
/-- the cells at an address -/
def Row (w : World) (B : Nat) (p : Addr) (cs : Array Value) : Prop := p.block < B ∧ ∀ j v, cs[j]? = some v → w.cell? (p.add j) = some v
theorem Row.below {w w' : World} {B : Nat} {p : Addr} {cs : Array Value} (h : Row w B p cs) (hb : Below B w w') : Row w' B p cs :=
  ⟨h.1, fun j v hv => by rw [hb.cell (by rw [block_of_add]; exact h.1)]; exact h.2 j v hv⟩
/-- a slice of records that reads as a list of them -/
def Recs (w : World) (B : Nat) (A : Option Addr) (n : Nat) (l : List Rc) : Prop := l.length = n ∧ Reads w B 19 A n (flat l) ∧ ∀ r ∈ l, r.Bd
theorem Recs.below {w w' : World} {B n : Nat} {A : Option Addr} {l : List Rc} (h : Recs w B A n l) (hb : Below B w w') : Recs w' B A n l := ⟨h.1, h.2.1.below hb, h.2.2⟩
theorem Recs.more {w : World} {B B' n : Nat} {A : Option Addr} {l : List Rc} (h : Recs w B A n l) (hb : B ≤ B') : Recs w B' A n l := ⟨h.1, h.2.1.more hb, h.2.2⟩
theorem Recs.row {w : World} {B n k : Nat} {A : Option Addr} {l : List Rc} (h : Recs w B A n l) (hk : k < n) (hl : k < l.length) : ∃ ad, A = some ad ∧ Row w B (ad.add (k * 19)) l[k].A := by
  obtain ⟨hlen, hr, _⟩ := h
  obtain ⟨ad, rfl, hb, hc⟩ := hr.2 (by omega)
  refine ⟨ad, rfl, by rw [block_of_add]; exact hb, fun j v hv => ?_⟩
  rw [add_of_add]
  have hj : j < 19 := by
    rcases Nat.lt_or_ge j 19 with g | g
    · exact g
    · have : l[k].A.size = 19 := rfl
      rw [Array.getElem?_eq_none (by omega)] at hv; cases hv
  refine hc _ _ ?_
  rw [Nat.mul_comm k 19, flat_at l k j (by omega) hj]; exact hv
theorem Recs.bd {w : World} {B n k : Nat} {A : Option Addr} {l : List Rc} (h : Recs w B A n l) (hl : k < l.length) : l[k].Bd := h.2.2 _ (List.getElem_mem _)
theorem run_loadVar_at {P : Program} (w : World) (B : Nat) (p : Addr) (ty : TypeId) (cs : Array Value) (d : TypeDesc) (hr : Row w B p cs)
    (hu : P.underlying ty = some d) (hd : (match d with | .struct _ | .array _ _ => true | _ => false) = true) (hi : (P.info? ty).map (·.size) = some cs.size) :
    (loadVar ty p).run P w = .ok (.agg cs) w := by
  have hl : (loadCells p cs.toList.length).run P w = .ok cs.toList.toArray w :=
    run_loadCells_list (P := P) w p cs.toList (fun j v hv => hr.2 j v (by simpa using hv))
  cases hq : P.info? ty with
  | none => simp [hq] at hi
  | some i =>
    have hs : i.size = cs.size := by simpa [hq] using hi
    have hagg : (isAgg ty).run P w = .ok true w := by
      unfold isAgg
      rw [Sem.run_bind, run_underlying hu w]
      simp only [Result.andThen_ok]
      revert hd
      cases d <;> simp
    simp only [Array.length_toList, Array.toArray_toList] at hl
    simp [loadVar, Sem.run_bind, hagg, sizeOf, typeInfo, hq, hs, hl]
theorem wpList_at_g {P : Program} {ops : Array Oper} {rest : List Oper} {o : Oper} {a : Act} {w : World} {Q : Exit → Act → World → Prop} (hw : Region.wanted o (yielded ops a.tmps) = true) (ty : TypeId) (x : Operand) (ho : o.op = .load ty x)
    (B : Nat) (p : Addr) (cs : Array Value) (hx : a.eval x = .pointer (some p)) (d : TypeDesc) (hr : Row w B p cs)
    (hu : P.underlying ty = some d) (hd : (match d with | .struct _ | .array _ _ => true | _ => false) = true) (hi : (P.info? ty).map (·.size) = some cs.size)
    (h : wpList P ops Q rest (a.put o.dst (.agg cs)) w) : wpList P ops Q (o :: rest) a w :=
  Go.BigFrame.wpList_want hw fun _ hK => by
    unfold Oper.wp execOp
    simp only [ho, hx, Instr.loadAt, Instr.sureAddr, Sem.run_bind, Sem.run_pure, Result.andThen_ok, run_loadVar_at w B p ty cs d hr hu hd hi]
    exact hK _ _ h
abbrev tbV (F L : Int) (A : Option Addr) (n c : Nat) : Value := .agg #[.int .i64 F, .int .i64 L, .slice A n c]
abbrev tbA (F L : Int) (A : Option Addr) (n c : Nat) : Array Value := #[.int .i64 F, .int .i64 L, .slice A n c]
end Go.Proofs.YtgdgkgeoigljcaaDoor.Tb
