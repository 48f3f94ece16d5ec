/-
  NARROWER THAN 'FOR EVERY INPUT', by the rows' own cells (each row's printed sentence says how): TopSaved: laid · TopYears: laid.
  DERIVED. THE GIVEN ROWS OF THIS SEAT. 2 by the template 'for every input the law returns true; each argument reads behind the call as it read before'; 0 by the template 'total and deterministic' (their statements: YtoklcbkphipmkaaDoorTotals.lean).
  GIVEN WITH THE SEED: the statements are not yours to turn. If you find one false, say at which input.
  Laid BY PROGRAM, IN A SANDBOX (cutbox-rows.mjs): the forced cells as the released guide's own fill.sh prints them over the translation 523184d3fe7f0bf0… (all of the seat's roots in one cut). By AI agents, Wed Nov 11 2026. No macro, syntax, notation, axiom, sorry.
-/
import Derived.Test.YtoklcbkphipmkaaDoorChecked
import GoSem.Claim
import GoSem.ClaimJoined
import GoSem.ClaimMapViews
import Derived.JoinedTies
import Derived.KernelRfl
namespace Go.Proofs.YtoklcbkphipmkaaDoor
/- THE CELL 'sum', in the pinned program and in every row, IS THE sha256 OF THE DUMP (.gsa) THAT YtoklcbkphipmkaaDoorProg.lean LOADS. Nothing in Lean hashes anything: it is a label: what it is worth is what the hold of that sum in a sandbox is worth. -/
noncomputable def Tryd.pinned : Pinned := { name := "ytoklcbkphipmkaadoor", sum := "523184d3fe7f0bf09b44834615df1c6ec9094f9f51fce4b15b3a7f16bd34f5df", checked := Tryd.checked }
namespace Rows
def none {H : Type} : Left H := { results := [], args := [] }

/- WHAT THE LISTED PACKAGE-LEVEL VARIABLES READ AS WHEN THE CALL BEGINS. Each datum BY PROGRAM (the guide's laid-datum.mjs) off the statement by which the dump's own 'gosem.cut.vars' lays the variable. In a bare row this is a premise. The card (YtoklcbkphipmkaaDoorCards.lean) ties it to the program's text. -/
def laid_solstice_civil_lengths {H : Type} : DataW H := .agg [.lit (.int .i64 31), .lit (.int .i64 28), .lit (.int .i64 31), .lit (.int .i64 30), .lit (.int .i64 31), .lit (.int .i64 30), .lit (.int .i64 31), .lit (.int .i64 31), .lit (.int .i64 30), .lit (.int .i64 31), .lit (.int .i64 30), .lit (.int .i64 31)]

/-- 'solsticetop.TopSaved': WHATEVER THE INPUT: true; the input reads as it did. -/
def topSavedSpec : ChangeSpec := { name := "topSaved", fn := fun _ => fun
  | [d1, d2, d3] => { results := [.lit (.bool true)], args := [d1, d2, d3] }
  | _ => none }
def topSavedRow : OpenClaim := { program := "ytoklcbkphipmkaadoor", sum := "523184d3fe7f0bf09b44834615df1c6ec9094f9f51fce4b15b3a7f16bd34f5df", func := "solstice/solsticetop.TopSaved", spec := "topSaved", unfollowed := true, recurses := true, named := ["solstice/civil.lengths"], apart := false, laid := [("solstice/civil.lengths", laid_solstice_civil_lengths)] }
def TopSavedSaid : Prop := topSavedRow.holds Tryd.pinned (OpenSpec.ofChange topSavedSpec)

/-- ITS FALSE NEIGHBOUR: 'it returns false'. Refute it at one input. -/
def topSavedWrong : ChangeSpec := { name := "topSaved", fn := fun _ => fun
  | [d1, d2, d3] => { results := [.lit (.bool false)], args := [d1, d2, d3] }
  | _ => none }
def TopSavedWrongFalsely : Prop := topSavedRow.holds Tryd.pinned (OpenSpec.ofChange topSavedWrong)

/-- 'solsticetop.TopYears': WHATEVER THE INPUT: true; the input reads as it did. -/
def topYearsSpec : ChangeSpec := { name := "topYears", fn := fun _ => fun
  | [d1, d2, d3, d4] => { results := [.lit (.bool true)], args := [d1, d2, d3, d4] }
  | _ => none }
def topYearsRow : OpenClaim := { program := "ytoklcbkphipmkaadoor", sum := "523184d3fe7f0bf09b44834615df1c6ec9094f9f51fce4b15b3a7f16bd34f5df", func := "solstice/solsticetop.TopYears", spec := "topYears", unfollowed := true, recurses := true, named := ["solstice/civil.lengths"], apart := false, laid := [("solstice/civil.lengths", laid_solstice_civil_lengths)] }
def TopYearsSaid : Prop := topYearsRow.holds Tryd.pinned (OpenSpec.ofChange topYearsSpec)

/-- ITS FALSE NEIGHBOUR: 'it returns false'. Refute it at one input. -/
def topYearsWrong : ChangeSpec := { name := "topYears", fn := fun _ => fun
  | [d1, d2, d3, d4] => { results := [.lit (.bool false)], args := [d1, d2, d3, d4] }
  | _ => none }
def TopYearsWrongFalsely : Prop := topYearsRow.holds Tryd.pinned (OpenSpec.ofChange topYearsWrong)

/- THE SECOND FORM. 'bulk': how many values and letters a reading holds, each counted each time it is reached (what is shared counts as often as it is met; a slice's spare places count too). A statement '..UptoSaid' is the law's where the arguments, and the package variables that the reading takes, are together of bulk at most 1048576: NARROWER than '..Said'. Prove '..Said' where nothing that the law and all that it calls make is longer than what came in: it says more and counts as full. Else prove '..UptoSaid'. A law counts once. -/
mutual
def uptoBulk {H : Type} : DataW H → Nat
  | .lit (.string bytes) => bytes.length + 1
  | .lit _ => 1
  | .nil => 1
  | .ptr d => uptoBulk d + 1
  | .slice elems spare => uptoBulkAll elems + uptoBulkAll spare + 1
  | .agg parts => uptoBulkAll parts + 1
  | .iface _ d => uptoBulk d + 1
  | .map entries => uptoBulkEntries entries + 1
  | .held _ => 1
def uptoBulkAll {H : Type} : List (DataW H) → Nat
  | [] => 0
  | d :: r => uptoBulk d + uptoBulkAll r
def uptoBulkEntries {H : Type} : List (Lit × DataW H) → Nat
  | [] => 0
  | x :: r => uptoBulkEntry x + uptoBulkEntries r
def uptoBulkEntry {H : Type} : Lit × DataW H → Nat
  | (.string bytes, d) => bytes.length + uptoBulk d + 1
  | (_, d) => uptoBulk d + 1
 end
def uptoSmall : (H : Type) → List (DataW H) → Bool := fun _ ds => decide (uptoBulkAll ds ≤ 1048576)
def OpenSpec.upto (s : _root_.Go.ChangeSpec) : _root_.Go.OpenSpec := { _root_.Go.OpenSpec.ofChange s with cond := some uptoSmall }

/-- 'solsticetop.TopSaved', WHERE WHAT IT READS IS OF BULK AT MOST 1048576: true; the input reads as it did. -/
def topSavedUptoRow : OpenClaim := { program := "ytoklcbkphipmkaadoor", sum := "523184d3fe7f0bf09b44834615df1c6ec9094f9f51fce4b15b3a7f16bd34f5df", func := "solstice/solsticetop.TopSaved", spec := "topSaved", unfollowed := true, recurses := true, named := ["solstice/civil.lengths"], apart := false, laid := [("solstice/civil.lengths", laid_solstice_civil_lengths)], narrowed := true }
def TopSavedUptoSaid : Prop := topSavedUptoRow.holds Tryd.pinned (OpenSpec.upto topSavedSpec)

/-- 'solsticetop.TopYears', WHERE WHAT IT READS IS OF BULK AT MOST 1048576: true; the input reads as it did. -/
def topYearsUptoRow : OpenClaim := { program := "ytoklcbkphipmkaadoor", sum := "523184d3fe7f0bf09b44834615df1c6ec9094f9f51fce4b15b3a7f16bd34f5df", func := "solstice/solsticetop.TopYears", spec := "topYears", unfollowed := true, recurses := true, named := ["solstice/civil.lengths"], apart := false, laid := [("solstice/civil.lengths", laid_solstice_civil_lengths)], narrowed := true }
def TopYearsUptoSaid : Prop := topYearsUptoRow.holds Tryd.pinned (OpenSpec.upto topYearsSpec)

end Rows
end Go.Proofs.YtoklcbkphipmkaaDoor
