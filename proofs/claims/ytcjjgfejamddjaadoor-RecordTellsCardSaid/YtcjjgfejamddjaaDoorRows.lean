/-
  NARROWER THAN 'FOR EVERY INPUT', by the rows' own cells (each row's printed sentence says how): TopDays: laid · TopYear: laid · StampBack: laid · StampWhich: laid · RecordTells: laid · RecordBack: laid · ShapeTells: laid · ShapeOne: laid.
  DERIVED. THE GIVEN ROWS OF THIS SEAT. 8 by the template 'for every input the law returns true; each argument reads behind the call as it read before'; 0 by the template 'total and deterministic' (their statements: YtcjjgfejamddjaaDoorTotals.lean).
  GIVEN WITH THE SEED: the statements are not yours to turn. If you find one false, say at which input.
  Laid BY PROGRAM, IN A SANDBOX (cutbox-rows.mjs): the forced cells as the released guide's own fill.sh prints them over the translation 5e7d4a7e8f4d3bee… (all of the seat's roots in one cut). By AI agents, Wed Nov 11 2026. No macro, syntax, notation, axiom, sorry.
-/
import Derived.Test.YtcjjgfejamddjaaDoorChecked
import GoSem.Claim
import GoSem.ClaimJoined
import GoSem.ClaimMapViews
import Derived.JoinedTies
import Derived.KernelRfl
namespace Go.Proofs.YtcjjgfejamddjaaDoor
/- THE CELL 'sum', in the pinned program and in every row, IS THE sha256 OF THE DUMP (.gsa) THAT YtcjjgfejamddjaaDoorProg.lean LOADS. Nothing in Lean hashes anything: it is a label: what it is worth is what the hold of that sum in a sandbox is worth. -/
noncomputable def Tryd.pinned : Pinned := { name := "ytcjjgfejamddjaadoor", sum := "5e7d4a7e8f4d3bee69c793e72b7ad24569ffa69ed08228069ba98475851906e2", checked := Tryd.checked }
namespace Rows
def none {H : Type} : Left H := { results := [], args := [] }

/- WHAT THE LISTED PACKAGE-LEVEL VARIABLES READ AS WHEN THE CALL BEGINS. Each datum BY PROGRAM (the guide's laid-datum.mjs) off the statement by which the dump's own 'gosem.cut.vars' lays the variable. In a bare row this is a premise. The card (YtcjjgfejamddjaaDoorCards.lean) ties it to the program's text. -/
def laid_solstice_civil_lengths {H : Type} : DataW H := .agg [.lit (.int .i64 31), .lit (.int .i64 28), .lit (.int .i64 31), .lit (.int .i64 30), .lit (.int .i64 31), .lit (.int .i64 30), .lit (.int .i64 31), .lit (.int .i64 31), .lit (.int .i64 30), .lit (.int .i64 31), .lit (.int .i64 30), .lit (.int .i64 31)]

/-- 'solsticetop.TopDays': WHATEVER THE INPUT: true; the input reads as it did. -/
def topDaysSpec : ChangeSpec := { name := "topDays", fn := fun _ => fun
  | [d1, d2] => { results := [.lit (.bool true)], args := [d1, d2] }
  | _ => none }
def topDaysRow : OpenClaim := { program := "ytcjjgfejamddjaadoor", sum := "5e7d4a7e8f4d3bee69c793e72b7ad24569ffa69ed08228069ba98475851906e2", func := "solstice/solsticetop.TopDays", spec := "topDays", named := ["solstice/civil.lengths"], apart := false, laid := [("solstice/civil.lengths", laid_solstice_civil_lengths)] }
def TopDaysSaid : Prop := topDaysRow.holds Tryd.pinned (OpenSpec.ofChange topDaysSpec)

/-- ITS FALSE NEIGHBOUR: 'it returns false'. Refute it at one input. -/
def topDaysWrong : ChangeSpec := { name := "topDays", fn := fun _ => fun
  | [d1, d2] => { results := [.lit (.bool false)], args := [d1, d2] }
  | _ => none }
def TopDaysWrongFalsely : Prop := topDaysRow.holds Tryd.pinned (OpenSpec.ofChange topDaysWrong)

/-- 'solsticetop.TopYear': WHATEVER THE INPUT: true; the input reads as it did. -/
def topYearSpec : ChangeSpec := { name := "topYear", fn := fun _ => fun
  | [d1, d2] => { results := [.lit (.bool true)], args := [d1, d2] }
  | _ => none }
def topYearRow : OpenClaim := { program := "ytcjjgfejamddjaadoor", sum := "5e7d4a7e8f4d3bee69c793e72b7ad24569ffa69ed08228069ba98475851906e2", func := "solstice/solsticetop.TopYear", spec := "topYear", named := ["solstice/civil.lengths"], apart := false, laid := [("solstice/civil.lengths", laid_solstice_civil_lengths)] }
def TopYearSaid : Prop := topYearRow.holds Tryd.pinned (OpenSpec.ofChange topYearSpec)

/-- ITS FALSE NEIGHBOUR: 'it returns false'. Refute it at one input. -/
def topYearWrong : ChangeSpec := { name := "topYear", fn := fun _ => fun
  | [d1, d2] => { results := [.lit (.bool false)], args := [d1, d2] }
  | _ => none }
def TopYearWrongFalsely : Prop := topYearRow.holds Tryd.pinned (OpenSpec.ofChange topYearWrong)

/-- 'solsticelaw20.StampBack': WHATEVER THE INPUT: true; the input reads as it did. -/
def stampBackSpec : ChangeSpec := { name := "stampBack", fn := fun _ => fun
  | [d1, d2, d3, d4] => { results := [.lit (.bool true)], args := [d1, d2, d3, d4] }
  | _ => none }
def stampBackRow : OpenClaim := { program := "ytcjjgfejamddjaadoor", sum := "5e7d4a7e8f4d3bee69c793e72b7ad24569ffa69ed08228069ba98475851906e2", func := "solstice/solsticelaw20.StampBack", spec := "stampBack", named := ["solstice/civil.lengths"], apart := false, laid := [("solstice/civil.lengths", laid_solstice_civil_lengths)] }
def StampBackSaid : Prop := stampBackRow.holds Tryd.pinned (OpenSpec.ofChange stampBackSpec)

/-- ITS FALSE NEIGHBOUR: 'it returns false'. Refute it at one input. -/
def stampBackWrong : ChangeSpec := { name := "stampBack", fn := fun _ => fun
  | [d1, d2, d3, d4] => { results := [.lit (.bool false)], args := [d1, d2, d3, d4] }
  | _ => none }
def StampBackWrongFalsely : Prop := stampBackRow.holds Tryd.pinned (OpenSpec.ofChange stampBackWrong)

/-- 'solsticelaw20.StampWhich': WHATEVER THE INPUT: true; the input reads as it did. -/
def stampWhichSpec : ChangeSpec := { name := "stampWhich", fn := fun _ => fun
  | [d1, d2] => { results := [.lit (.bool true)], args := [d1, d2] }
  | _ => none }
def stampWhichRow : OpenClaim := { program := "ytcjjgfejamddjaadoor", sum := "5e7d4a7e8f4d3bee69c793e72b7ad24569ffa69ed08228069ba98475851906e2", func := "solstice/solsticelaw20.StampWhich", spec := "stampWhich", named := ["solstice/civil.lengths"], apart := false, laid := [("solstice/civil.lengths", laid_solstice_civil_lengths)] }
def StampWhichSaid : Prop := stampWhichRow.holds Tryd.pinned (OpenSpec.ofChange stampWhichSpec)

/-- ITS FALSE NEIGHBOUR: 'it returns false'. Refute it at one input. -/
def stampWhichWrong : ChangeSpec := { name := "stampWhich", fn := fun _ => fun
  | [d1, d2] => { results := [.lit (.bool false)], args := [d1, d2] }
  | _ => none }
def StampWhichWrongFalsely : Prop := stampWhichRow.holds Tryd.pinned (OpenSpec.ofChange stampWhichWrong)

/-- 'solsticelaw21.RecordTells': WHATEVER THE INPUT: true; the input reads as it did. -/
def recordTellsSpec : ChangeSpec := { name := "recordTells", fn := fun _ => fun
  | [d1, d2, d3, d4, d5, d6] => { results := [.lit (.bool true)], args := [d1, d2, d3, d4, d5, d6] }
  | _ => none }
def recordTellsRow : OpenClaim := { program := "ytcjjgfejamddjaadoor", sum := "5e7d4a7e8f4d3bee69c793e72b7ad24569ffa69ed08228069ba98475851906e2", func := "solstice/solsticelaw21.RecordTells", spec := "recordTells", named := ["solstice/civil.lengths"], apart := false, laid := [("solstice/civil.lengths", laid_solstice_civil_lengths)] }
def RecordTellsSaid : Prop := recordTellsRow.holds Tryd.pinned (OpenSpec.ofChange recordTellsSpec)

/-- ITS FALSE NEIGHBOUR: 'it returns false'. Refute it at one input. -/
def recordTellsWrong : ChangeSpec := { name := "recordTells", fn := fun _ => fun
  | [d1, d2, d3, d4, d5, d6] => { results := [.lit (.bool false)], args := [d1, d2, d3, d4, d5, d6] }
  | _ => none }
def RecordTellsWrongFalsely : Prop := recordTellsRow.holds Tryd.pinned (OpenSpec.ofChange recordTellsWrong)

/-- 'solsticelaw21.RecordBack': WHATEVER THE INPUT: true; the input reads as it did. -/
def recordBackSpec : ChangeSpec := { name := "recordBack", fn := fun _ => fun
  | [d1, d2, d3, d4, d5, d6] => { results := [.lit (.bool true)], args := [d1, d2, d3, d4, d5, d6] }
  | _ => none }
def recordBackRow : OpenClaim := { program := "ytcjjgfejamddjaadoor", sum := "5e7d4a7e8f4d3bee69c793e72b7ad24569ffa69ed08228069ba98475851906e2", func := "solstice/solsticelaw21.RecordBack", spec := "recordBack", named := ["solstice/civil.lengths"], apart := false, laid := [("solstice/civil.lengths", laid_solstice_civil_lengths)] }
def RecordBackSaid : Prop := recordBackRow.holds Tryd.pinned (OpenSpec.ofChange recordBackSpec)

/-- ITS FALSE NEIGHBOUR: 'it returns false'. Refute it at one input. -/
def recordBackWrong : ChangeSpec := { name := "recordBack", fn := fun _ => fun
  | [d1, d2, d3, d4, d5, d6] => { results := [.lit (.bool false)], args := [d1, d2, d3, d4, d5, d6] }
  | _ => none }
def RecordBackWrongFalsely : Prop := recordBackRow.holds Tryd.pinned (OpenSpec.ofChange recordBackWrong)

/-- 'solsticelaw26.ShapeTells': WHATEVER THE INPUT: true; the input reads as it did. -/
def shapeTellsSpec : ChangeSpec := { name := "shapeTells", fn := fun _ => fun
  | [d1, d2, d3, d4, d5, d6, d7, d8] => { results := [.lit (.bool true)], args := [d1, d2, d3, d4, d5, d6, d7, d8] }
  | _ => none }
def shapeTellsRow : OpenClaim := { program := "ytcjjgfejamddjaadoor", sum := "5e7d4a7e8f4d3bee69c793e72b7ad24569ffa69ed08228069ba98475851906e2", func := "solstice/solsticelaw26.ShapeTells", spec := "shapeTells", named := ["solstice/civil.lengths"], apart := false, laid := [("solstice/civil.lengths", laid_solstice_civil_lengths)] }
def ShapeTellsSaid : Prop := shapeTellsRow.holds Tryd.pinned (OpenSpec.ofChange shapeTellsSpec)

/-- ITS FALSE NEIGHBOUR: 'it returns false'. Refute it at one input. -/
def shapeTellsWrong : ChangeSpec := { name := "shapeTells", fn := fun _ => fun
  | [d1, d2, d3, d4, d5, d6, d7, d8] => { results := [.lit (.bool false)], args := [d1, d2, d3, d4, d5, d6, d7, d8] }
  | _ => none }
def ShapeTellsWrongFalsely : Prop := shapeTellsRow.holds Tryd.pinned (OpenSpec.ofChange shapeTellsWrong)

/-- 'solsticelaw26.ShapeOne': WHATEVER THE INPUT: true; the input reads as it did. -/
def shapeOneSpec : ChangeSpec := { name := "shapeOne", fn := fun _ => fun
  | [d1, d2, d3, d4, d5] => { results := [.lit (.bool true)], args := [d1, d2, d3, d4, d5] }
  | _ => none }
def shapeOneRow : OpenClaim := { program := "ytcjjgfejamddjaadoor", sum := "5e7d4a7e8f4d3bee69c793e72b7ad24569ffa69ed08228069ba98475851906e2", func := "solstice/solsticelaw26.ShapeOne", spec := "shapeOne", named := ["solstice/civil.lengths"], apart := false, laid := [("solstice/civil.lengths", laid_solstice_civil_lengths)] }
def ShapeOneSaid : Prop := shapeOneRow.holds Tryd.pinned (OpenSpec.ofChange shapeOneSpec)

/-- ITS FALSE NEIGHBOUR: 'it returns false'. Refute it at one input. -/
def shapeOneWrong : ChangeSpec := { name := "shapeOne", fn := fun _ => fun
  | [d1, d2, d3, d4, d5] => { results := [.lit (.bool false)], args := [d1, d2, d3, d4, d5] }
  | _ => none }
def ShapeOneWrongFalsely : Prop := shapeOneRow.holds Tryd.pinned (OpenSpec.ofChange shapeOneWrong)

/- THE SECOND FORM. 'bulk': how many values and letters a reading holds, each counted each time it is reached (what is shared counts as often as it is met; a slice's spare places count too). A statement '..UptoSaid' is the law's where the arguments, and the package variables that the reading takes, are together of bulk at most 1048576: NARROWER than '..Said'. Prove '..Said' where nothing that the law and all that it calls make is longer than what came in: it says more and counts as full. Else prove '..UptoSaid'. A law counts once. -/
mutual
def uptoBulk {H : Type} : DataW H → Nat
  | .lit (.string bytes) => bytes.length + 1
  | .lit _ => 1
  | .nil => 1
  | .ptr d => uptoBulk d + 1
  | .slice elems spare => uptoBulkAll elems + uptoBulkAll spare + 1
  | .agg parts => uptoBulkAll parts + 1
  | .iface _ d => uptoBulk d + 1
  | .map entries => uptoBulkEntries entries + 1
  | .held _ => 1
def uptoBulkAll {H : Type} : List (DataW H) → Nat
  | [] => 0
  | d :: r => uptoBulk d + uptoBulkAll r
def uptoBulkEntries {H : Type} : List (Lit × DataW H) → Nat
  | [] => 0
  | x :: r => uptoBulkEntry x + uptoBulkEntries r
def uptoBulkEntry {H : Type} : Lit × DataW H → Nat
  | (.string bytes, d) => bytes.length + uptoBulk d + 1
  | (_, d) => uptoBulk d + 1
 end
def uptoSmall : (H : Type) → List (DataW H) → Bool := fun _ ds => decide (uptoBulkAll ds ≤ 1048576)
def OpenSpec.upto (s : _root_.Go.ChangeSpec) : _root_.Go.OpenSpec := { _root_.Go.OpenSpec.ofChange s with cond := some uptoSmall }

/-- 'solsticetop.TopDays', WHERE WHAT IT READS IS OF BULK AT MOST 1048576: true; the input reads as it did. -/
def topDaysUptoRow : OpenClaim := { program := "ytcjjgfejamddjaadoor", sum := "5e7d4a7e8f4d3bee69c793e72b7ad24569ffa69ed08228069ba98475851906e2", func := "solstice/solsticetop.TopDays", spec := "topDays", named := ["solstice/civil.lengths"], apart := false, laid := [("solstice/civil.lengths", laid_solstice_civil_lengths)], narrowed := true }
def TopDaysUptoSaid : Prop := topDaysUptoRow.holds Tryd.pinned (OpenSpec.upto topDaysSpec)

/-- 'solsticetop.TopYear', WHERE WHAT IT READS IS OF BULK AT MOST 1048576: true; the input reads as it did. -/
def topYearUptoRow : OpenClaim := { program := "ytcjjgfejamddjaadoor", sum := "5e7d4a7e8f4d3bee69c793e72b7ad24569ffa69ed08228069ba98475851906e2", func := "solstice/solsticetop.TopYear", spec := "topYear", named := ["solstice/civil.lengths"], apart := false, laid := [("solstice/civil.lengths", laid_solstice_civil_lengths)], narrowed := true }
def TopYearUptoSaid : Prop := topYearUptoRow.holds Tryd.pinned (OpenSpec.upto topYearSpec)

/-- 'solsticelaw20.StampBack', WHERE WHAT IT READS IS OF BULK AT MOST 1048576: true; the input reads as it did. -/
def stampBackUptoRow : OpenClaim := { program := "ytcjjgfejamddjaadoor", sum := "5e7d4a7e8f4d3bee69c793e72b7ad24569ffa69ed08228069ba98475851906e2", func := "solstice/solsticelaw20.StampBack", spec := "stampBack", named := ["solstice/civil.lengths"], apart := false, laid := [("solstice/civil.lengths", laid_solstice_civil_lengths)], narrowed := true }
def StampBackUptoSaid : Prop := stampBackUptoRow.holds Tryd.pinned (OpenSpec.upto stampBackSpec)

/-- 'solsticelaw20.StampWhich', WHERE WHAT IT READS IS OF BULK AT MOST 1048576: true; the input reads as it did. -/
def stampWhichUptoRow : OpenClaim := { program := "ytcjjgfejamddjaadoor", sum := "5e7d4a7e8f4d3bee69c793e72b7ad24569ffa69ed08228069ba98475851906e2", func := "solstice/solsticelaw20.StampWhich", spec := "stampWhich", named := ["solstice/civil.lengths"], apart := false, laid := [("solstice/civil.lengths", laid_solstice_civil_lengths)], narrowed := true }
def StampWhichUptoSaid : Prop := stampWhichUptoRow.holds Tryd.pinned (OpenSpec.upto stampWhichSpec)

/-- 'solsticelaw21.RecordTells', WHERE WHAT IT READS IS OF BULK AT MOST 1048576: true; the input reads as it did. -/
def recordTellsUptoRow : OpenClaim := { program := "ytcjjgfejamddjaadoor", sum := "5e7d4a7e8f4d3bee69c793e72b7ad24569ffa69ed08228069ba98475851906e2", func := "solstice/solsticelaw21.RecordTells", spec := "recordTells", named := ["solstice/civil.lengths"], apart := false, laid := [("solstice/civil.lengths", laid_solstice_civil_lengths)], narrowed := true }
def RecordTellsUptoSaid : Prop := recordTellsUptoRow.holds Tryd.pinned (OpenSpec.upto recordTellsSpec)

/-- 'solsticelaw21.RecordBack', WHERE WHAT IT READS IS OF BULK AT MOST 1048576: true; the input reads as it did. -/
def recordBackUptoRow : OpenClaim := { program := "ytcjjgfejamddjaadoor", sum := "5e7d4a7e8f4d3bee69c793e72b7ad24569ffa69ed08228069ba98475851906e2", func := "solstice/solsticelaw21.RecordBack", spec := "recordBack", named := ["solstice/civil.lengths"], apart := false, laid := [("solstice/civil.lengths", laid_solstice_civil_lengths)], narrowed := true }
def RecordBackUptoSaid : Prop := recordBackUptoRow.holds Tryd.pinned (OpenSpec.upto recordBackSpec)

/-- 'solsticelaw26.ShapeTells', WHERE WHAT IT READS IS OF BULK AT MOST 1048576: true; the input reads as it did. -/
def shapeTellsUptoRow : OpenClaim := { program := "ytcjjgfejamddjaadoor", sum := "5e7d4a7e8f4d3bee69c793e72b7ad24569ffa69ed08228069ba98475851906e2", func := "solstice/solsticelaw26.ShapeTells", spec := "shapeTells", named := ["solstice/civil.lengths"], apart := false, laid := [("solstice/civil.lengths", laid_solstice_civil_lengths)], narrowed := true }
def ShapeTellsUptoSaid : Prop := shapeTellsUptoRow.holds Tryd.pinned (OpenSpec.upto shapeTellsSpec)

/-- 'solsticelaw26.ShapeOne', WHERE WHAT IT READS IS OF BULK AT MOST 1048576: true; the input reads as it did. -/
def shapeOneUptoRow : OpenClaim := { program := "ytcjjgfejamddjaadoor", sum := "5e7d4a7e8f4d3bee69c793e72b7ad24569ffa69ed08228069ba98475851906e2", func := "solstice/solsticelaw26.ShapeOne", spec := "shapeOne", named := ["solstice/civil.lengths"], apart := false, laid := [("solstice/civil.lengths", laid_solstice_civil_lengths)], narrowed := true }
def ShapeOneUptoSaid : Prop := shapeOneUptoRow.holds Tryd.pinned (OpenSpec.upto shapeOneSpec)

end Rows
end Go.Proofs.YtcjjgfejamddjaaDoor
