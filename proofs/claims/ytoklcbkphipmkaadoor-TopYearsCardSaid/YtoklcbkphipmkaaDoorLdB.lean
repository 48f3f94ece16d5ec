/-
  A STRUCT LOADED IN A DRAWN REGION: by one fact.
-/
import Derived.Test.YtoklcbkphipmkaaDoorProg
import Derived.Test.YtoklcbkphipmkaaDoorWords
import Derived.Deep.MidRow
namespace Go.Proofs.YtoklcbkphipmkaaDoor.Ld
open Go.ChangeShapes Go.WideShapes Go.RowKit
open Go.Proofs.YtoklcbkphipmkaaDoor
open Go.Proofs.YtoklcbkphipmkaaDoor.Wd
set_option linter.unusedVariables false
theorem ld_seg {w : World} {g k : Nat} {t T : TypeId} {cs new : Array Value} {d : TypeDesc} (h : Blk w g t cs) (hu : Tryd.prog.underlying T = some d) (hd : d.isRow = true)
    (hi : (Tryd.prog.info? T).map (·.size) = some new.size) (hn : (cs.toList.drop k).take new.size = new.toList) : (Instr.loadAt T (.pointer (some ⟨g, k, none⟩))).run Tryd.prog w = .ok (.agg new) w := by
  have hr : w.rangeAt g k new.toList := fun j v hv => by
    rw [h.cell (k + j)]
    rw [← hn, List.getElem?_take] at hv
    split at hv
    · rw [List.getElem?_drop] at hv; simpa using hv
    · cases hv
  have := run_loadAt_mid (P := Tryd.prog) w g k T new.toList d hr hu hd (by simpa using hi)
  simpa using this
/-- what a load of a struct reads, if it does: so that a drawn region's walk takes it by one fact, without its cells -/
noncomputable def ldT (T : TypeId) (v : Value) (w : World) : Option (Array Value) :=
  open Classical in if h : ∃ cs, (Instr.loadAt T v).run Tryd.prog w = .ok (.agg cs) w then some h.choose else none
noncomputable def ldO (T : TypeId) (v : Value) (w : World) : Result Value := (Instr.loadAt T v).run Tryd.prog w
theorem ldT_of {T : TypeId} {v : Value} {w : World} {cs : Array Value} (h : (Instr.loadAt T v).run Tryd.prog w = .ok (.agg cs) w) : ldT T v w = some cs := by
  have hx : ∃ cs, (Instr.loadAt T v).run Tryd.prog w = .ok (.agg cs) w := ⟨cs, h⟩
  unfold ldT
  rw [dif_pos hx]
  have := hx.choose_spec.symm.trans h
  simp only [Result.ok.injEq, Value.agg.injEq] at this
  rw [this.1]
theorem ldT_pre (T : TypeId) (v : Value) (w : World) : (Instr.loadAt T v).run Tryd.prog w = (match ldT T v w with | some cs => .ok (.agg cs) w | none => ldO T v w) := by
  by_cases hx : ∃ cs, (Instr.loadAt T v).run Tryd.prog w = .ok (.agg cs) w
  · obtain ⟨cs, h⟩ := hx
    rw [ldT_of h, h]
  · have : ldT T v w = none := by unfold ldT; rw [dif_neg hx]
    rw [this]; rfl
noncomputable def ldSem (T : TypeId) (v : Value) := Instr.loadAt T v
theorem ldSem_run (T : TypeId) (v : Value) (w : World) : (ldSem T v).run Tryd.prog w = (match ldT T v w with | some cs => .ok (.agg cs) w | none => ldO T v w) := ldT_pre T v w
theorem wp_ld {P : Program} {o : Oper} {a : Act} {w : World} {K : Act → World → Prop} {Q : Exit → Act → World → Prop} (ty : TypeId) (x : Operand) (ho : o.op = .load ty x)
    (v : Value) (new : Array Value) (hx : a.eval x = v) (hl : (Instr.loadAt ty v).run P w = .ok (.agg new) w)
    (h : K (a.put o.dst (.agg new)) w) : o.wp P a w K Q := by
  unfold Oper.wp execOp
  simp only [ho, hx, Sem.run_bind, Sem.run_pure, Result.andThen_ok, hl]
  exact h
end Go.Proofs.YtoklcbkphipmkaaDoor.Ld
