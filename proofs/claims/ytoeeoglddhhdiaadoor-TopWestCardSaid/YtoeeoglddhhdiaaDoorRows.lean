/-
  NARROWER THAN 'FOR EVERY INPUT', by the rows' own cells (each row's printed sentence says how): LocalTells: laid · LocalBack: laid · LocalGap: laid · TableTells: laid · TableYear: laid · TopHands: laid · TopFour: laid · TopMirror: laid · TopWest: laid · SqueezeTells: laid · SqueezeShort: laid.
  DERIVED. THE GIVEN ROWS OF THIS SEAT. 11 by the template 'for every input the law returns true; each argument reads behind the call as it read before'; 0 by the template 'total and deterministic' (their statements: YtoeeoglddhhdiaaDoorTotals.lean).
  GIVEN WITH THE SEED: the statements are not yours to turn. If you find one false, say at which input.
  Laid BY PROGRAM, IN A SANDBOX (cutbox-rows.mjs): the forced cells as the released guide's own fill.sh prints them over the translation 0f2471afbaab52cd… (all of the seat's roots in one cut). By AI agents, Wed Nov 11 2026. No macro, syntax, notation, axiom, sorry.
-/
import Derived.Test.YtoeeoglddhhdiaaDoorChecked
import GoSem.Claim
import GoSem.ClaimJoined
import GoSem.ClaimMapViews
import Derived.JoinedTies
import Derived.KernelRfl
namespace Go.Proofs.YtoeeoglddhhdiaaDoor
/- THE CELL 'sum', in the pinned program and in every row, IS THE sha256 OF THE DUMP (.gsa) THAT YtoeeoglddhhdiaaDoorProg.lean LOADS. Nothing in Lean hashes anything: it is a label: what it is worth is what the hold of that sum in a sandbox is worth. -/
noncomputable def Tryd.pinned : Pinned := { name := "ytoeeoglddhhdiaadoor", sum := "0f2471afbaab52cdfbb0f5a9d3c69e5930fa2b95e2c8caefca44847df4cd4176", checked := Tryd.checked }
namespace Rows
def none {H : Type} : Left H := { results := [], args := [] }

/- WHAT THE LISTED PACKAGE-LEVEL VARIABLES READ AS WHEN THE CALL BEGINS. Each datum BY PROGRAM (the guide's laid-datum.mjs) off the statement by which the dump's own 'gosem.cut.vars' lays the variable. In a bare row this is a premise. The card (YtoeeoglddhhdiaaDoorCards.lean) ties it to the program's text. -/
def laid_solstice_civil_lengths {H : Type} : DataW H := .agg [.lit (.int .i64 31), .lit (.int .i64 28), .lit (.int .i64 31), .lit (.int .i64 30), .lit (.int .i64 31), .lit (.int .i64 30), .lit (.int .i64 31), .lit (.int .i64 31), .lit (.int .i64 30), .lit (.int .i64 31), .lit (.int .i64 30), .lit (.int .i64 31)]

/-- 'solsticelaw24.LocalTells': WHATEVER THE INPUT: true; the input reads as it did. -/
def localTellsSpec : ChangeSpec := { name := "localTells", fn := fun _ => fun
  | [d1, d2, d3] => { results := [.lit (.bool true)], args := [d1, d2, d3] }
  | _ => none }
def localTellsRow : OpenClaim := { program := "ytoeeoglddhhdiaadoor", sum := "0f2471afbaab52cdfbb0f5a9d3c69e5930fa2b95e2c8caefca44847df4cd4176", func := "solstice/solsticelaw24.LocalTells", spec := "localTells", unfollowed := true, recurses := true, named := ["solstice/civil.lengths"], apart := false, laid := [("solstice/civil.lengths", laid_solstice_civil_lengths)] }
def LocalTellsSaid : Prop := localTellsRow.holds Tryd.pinned (OpenSpec.ofChange localTellsSpec)

/-- ITS FALSE NEIGHBOUR: 'it returns false'. Refute it at one input. -/
def localTellsWrong : ChangeSpec := { name := "localTells", fn := fun _ => fun
  | [d1, d2, d3] => { results := [.lit (.bool false)], args := [d1, d2, d3] }
  | _ => none }
def LocalTellsWrongFalsely : Prop := localTellsRow.holds Tryd.pinned (OpenSpec.ofChange localTellsWrong)

/-- 'solsticelaw24.LocalBack': WHATEVER THE INPUT: true; the input reads as it did. -/
def localBackSpec : ChangeSpec := { name := "localBack", fn := fun _ => fun
  | [d1, d2] => { results := [.lit (.bool true)], args := [d1, d2] }
  | _ => none }
def localBackRow : OpenClaim := { program := "ytoeeoglddhhdiaadoor", sum := "0f2471afbaab52cdfbb0f5a9d3c69e5930fa2b95e2c8caefca44847df4cd4176", func := "solstice/solsticelaw24.LocalBack", spec := "localBack", unfollowed := true, recurses := true, named := ["solstice/civil.lengths"], apart := false, laid := [("solstice/civil.lengths", laid_solstice_civil_lengths)] }
def LocalBackSaid : Prop := localBackRow.holds Tryd.pinned (OpenSpec.ofChange localBackSpec)

/-- ITS FALSE NEIGHBOUR: 'it returns false'. Refute it at one input. -/
def localBackWrong : ChangeSpec := { name := "localBack", fn := fun _ => fun
  | [d1, d2] => { results := [.lit (.bool false)], args := [d1, d2] }
  | _ => none }
def LocalBackWrongFalsely : Prop := localBackRow.holds Tryd.pinned (OpenSpec.ofChange localBackWrong)

/-- 'solsticelaw24.LocalGap': WHATEVER THE INPUT: true; the input reads as it did. -/
def localGapSpec : ChangeSpec := { name := "localGap", fn := fun _ => fun
  | [d1, d2] => { results := [.lit (.bool true)], args := [d1, d2] }
  | _ => none }
def localGapRow : OpenClaim := { program := "ytoeeoglddhhdiaadoor", sum := "0f2471afbaab52cdfbb0f5a9d3c69e5930fa2b95e2c8caefca44847df4cd4176", func := "solstice/solsticelaw24.LocalGap", spec := "localGap", unfollowed := true, recurses := true, named := ["solstice/civil.lengths"], apart := false, laid := [("solstice/civil.lengths", laid_solstice_civil_lengths)] }
def LocalGapSaid : Prop := localGapRow.holds Tryd.pinned (OpenSpec.ofChange localGapSpec)

/-- ITS FALSE NEIGHBOUR: 'it returns false'. Refute it at one input. -/
def localGapWrong : ChangeSpec := { name := "localGap", fn := fun _ => fun
  | [d1, d2] => { results := [.lit (.bool false)], args := [d1, d2] }
  | _ => none }
def LocalGapWrongFalsely : Prop := localGapRow.holds Tryd.pinned (OpenSpec.ofChange localGapWrong)

/-- 'solsticelaw23.TableTells': WHATEVER THE INPUT: true; the input reads as it did. -/
def tableTellsSpec : ChangeSpec := { name := "tableTells", fn := fun _ => fun
  | [d1, d2, d3, d4] => { results := [.lit (.bool true)], args := [d1, d2, d3, d4] }
  | _ => none }
def tableTellsRow : OpenClaim := { program := "ytoeeoglddhhdiaadoor", sum := "0f2471afbaab52cdfbb0f5a9d3c69e5930fa2b95e2c8caefca44847df4cd4176", func := "solstice/solsticelaw23.TableTells", spec := "tableTells", unfollowed := true, recurses := true, named := ["solstice/civil.lengths"], apart := false, laid := [("solstice/civil.lengths", laid_solstice_civil_lengths)] }
def TableTellsSaid : Prop := tableTellsRow.holds Tryd.pinned (OpenSpec.ofChange tableTellsSpec)

/-- ITS FALSE NEIGHBOUR: 'it returns false'. Refute it at one input. -/
def tableTellsWrong : ChangeSpec := { name := "tableTells", fn := fun _ => fun
  | [d1, d2, d3, d4] => { results := [.lit (.bool false)], args := [d1, d2, d3, d4] }
  | _ => none }
def TableTellsWrongFalsely : Prop := tableTellsRow.holds Tryd.pinned (OpenSpec.ofChange tableTellsWrong)

/-- 'solsticelaw23.TableYear': WHATEVER THE INPUT: true; the input reads as it did. -/
def tableYearSpec : ChangeSpec := { name := "tableYear", fn := fun _ => fun
  | [d1, d2] => { results := [.lit (.bool true)], args := [d1, d2] }
  | _ => none }
def tableYearRow : OpenClaim := { program := "ytoeeoglddhhdiaadoor", sum := "0f2471afbaab52cdfbb0f5a9d3c69e5930fa2b95e2c8caefca44847df4cd4176", func := "solstice/solsticelaw23.TableYear", spec := "tableYear", unfollowed := true, recurses := true, named := ["solstice/civil.lengths"], apart := false, laid := [("solstice/civil.lengths", laid_solstice_civil_lengths)] }
def TableYearSaid : Prop := tableYearRow.holds Tryd.pinned (OpenSpec.ofChange tableYearSpec)

/-- ITS FALSE NEIGHBOUR: 'it returns false'. Refute it at one input. -/
def tableYearWrong : ChangeSpec := { name := "tableYear", fn := fun _ => fun
  | [d1, d2] => { results := [.lit (.bool false)], args := [d1, d2] }
  | _ => none }
def TableYearWrongFalsely : Prop := tableYearRow.holds Tryd.pinned (OpenSpec.ofChange tableYearWrong)

/-- 'solsticetop.TopHands': WHATEVER THE INPUT: true; the input reads as it did. -/
def topHandsSpec : ChangeSpec := { name := "topHands", fn := fun _ => fun
  | [d1, d2, d3] => { results := [.lit (.bool true)], args := [d1, d2, d3] }
  | _ => none }
def topHandsRow : OpenClaim := { program := "ytoeeoglddhhdiaadoor", sum := "0f2471afbaab52cdfbb0f5a9d3c69e5930fa2b95e2c8caefca44847df4cd4176", func := "solstice/solsticetop.TopHands", spec := "topHands", unfollowed := true, recurses := true, named := ["solstice/civil.lengths"], apart := false, laid := [("solstice/civil.lengths", laid_solstice_civil_lengths)] }
def TopHandsSaid : Prop := topHandsRow.holds Tryd.pinned (OpenSpec.ofChange topHandsSpec)

/-- ITS FALSE NEIGHBOUR: 'it returns false'. Refute it at one input. -/
def topHandsWrong : ChangeSpec := { name := "topHands", fn := fun _ => fun
  | [d1, d2, d3] => { results := [.lit (.bool false)], args := [d1, d2, d3] }
  | _ => none }
def TopHandsWrongFalsely : Prop := topHandsRow.holds Tryd.pinned (OpenSpec.ofChange topHandsWrong)

/-- 'solsticetop.TopFour': WHATEVER THE INPUT: true; the input reads as it did. -/
def topFourSpec : ChangeSpec := { name := "topFour", fn := fun _ => fun
  | [d1, d2] => { results := [.lit (.bool true)], args := [d1, d2] }
  | _ => none }
def topFourRow : OpenClaim := { program := "ytoeeoglddhhdiaadoor", sum := "0f2471afbaab52cdfbb0f5a9d3c69e5930fa2b95e2c8caefca44847df4cd4176", func := "solstice/solsticetop.TopFour", spec := "topFour", unfollowed := true, recurses := true, named := ["solstice/civil.lengths"], apart := false, laid := [("solstice/civil.lengths", laid_solstice_civil_lengths)] }
def TopFourSaid : Prop := topFourRow.holds Tryd.pinned (OpenSpec.ofChange topFourSpec)

/-- ITS FALSE NEIGHBOUR: 'it returns false'. Refute it at one input. -/
def topFourWrong : ChangeSpec := { name := "topFour", fn := fun _ => fun
  | [d1, d2] => { results := [.lit (.bool false)], args := [d1, d2] }
  | _ => none }
def TopFourWrongFalsely : Prop := topFourRow.holds Tryd.pinned (OpenSpec.ofChange topFourWrong)

/-- 'solsticetop.TopMirror': WHATEVER THE INPUT: true; the input reads as it did. -/
def topMirrorSpec : ChangeSpec := { name := "topMirror", fn := fun _ => fun
  | [d1, d2, d3] => { results := [.lit (.bool true)], args := [d1, d2, d3] }
  | _ => none }
def topMirrorRow : OpenClaim := { program := "ytoeeoglddhhdiaadoor", sum := "0f2471afbaab52cdfbb0f5a9d3c69e5930fa2b95e2c8caefca44847df4cd4176", func := "solstice/solsticetop.TopMirror", spec := "topMirror", named := ["solstice/civil.lengths"], apart := false, laid := [("solstice/civil.lengths", laid_solstice_civil_lengths)] }
def TopMirrorSaid : Prop := topMirrorRow.holds Tryd.pinned (OpenSpec.ofChange topMirrorSpec)

/-- ITS FALSE NEIGHBOUR: 'it returns false'. Refute it at one input. -/
def topMirrorWrong : ChangeSpec := { name := "topMirror", fn := fun _ => fun
  | [d1, d2, d3] => { results := [.lit (.bool false)], args := [d1, d2, d3] }
  | _ => none }
def TopMirrorWrongFalsely : Prop := topMirrorRow.holds Tryd.pinned (OpenSpec.ofChange topMirrorWrong)

/-- 'solsticetop.TopWest': WHATEVER THE INPUT: true; the input reads as it did. -/
def topWestSpec : ChangeSpec := { name := "topWest", fn := fun _ => fun
  | [d1, d2, d3, d4] => { results := [.lit (.bool true)], args := [d1, d2, d3, d4] }
  | _ => none }
def topWestRow : OpenClaim := { program := "ytoeeoglddhhdiaadoor", sum := "0f2471afbaab52cdfbb0f5a9d3c69e5930fa2b95e2c8caefca44847df4cd4176", func := "solstice/solsticetop.TopWest", spec := "topWest", unfollowed := true, recurses := true, named := ["solstice/civil.lengths"], apart := false, laid := [("solstice/civil.lengths", laid_solstice_civil_lengths)] }
def TopWestSaid : Prop := topWestRow.holds Tryd.pinned (OpenSpec.ofChange topWestSpec)

/-- ITS FALSE NEIGHBOUR: 'it returns false'. Refute it at one input. -/
def topWestWrong : ChangeSpec := { name := "topWest", fn := fun _ => fun
  | [d1, d2, d3, d4] => { results := [.lit (.bool false)], args := [d1, d2, d3, d4] }
  | _ => none }
def TopWestWrongFalsely : Prop := topWestRow.holds Tryd.pinned (OpenSpec.ofChange topWestWrong)

/-- 'solsticelaw28.SqueezeTells': WHATEVER THE INPUT: true; the input reads as it did. -/
def squeezeTellsSpec : ChangeSpec := { name := "squeezeTells", fn := fun _ => fun
  | [d1, d2, d3] => { results := [.lit (.bool true)], args := [d1, d2, d3] }
  | _ => none }
def squeezeTellsRow : OpenClaim := { program := "ytoeeoglddhhdiaadoor", sum := "0f2471afbaab52cdfbb0f5a9d3c69e5930fa2b95e2c8caefca44847df4cd4176", func := "solstice/solsticelaw28.SqueezeTells", spec := "squeezeTells", unfollowed := true, recurses := true, named := ["solstice/civil.lengths"], apart := false, laid := [("solstice/civil.lengths", laid_solstice_civil_lengths)] }
def SqueezeTellsSaid : Prop := squeezeTellsRow.holds Tryd.pinned (OpenSpec.ofChange squeezeTellsSpec)

/-- ITS FALSE NEIGHBOUR: 'it returns false'. Refute it at one input. -/
def squeezeTellsWrong : ChangeSpec := { name := "squeezeTells", fn := fun _ => fun
  | [d1, d2, d3] => { results := [.lit (.bool false)], args := [d1, d2, d3] }
  | _ => none }
def SqueezeTellsWrongFalsely : Prop := squeezeTellsRow.holds Tryd.pinned (OpenSpec.ofChange squeezeTellsWrong)

/-- 'solsticelaw28.SqueezeShort': WHATEVER THE INPUT: true; the input reads as it did. -/
def squeezeShortSpec : ChangeSpec := { name := "squeezeShort", fn := fun _ => fun
  | [d1, d2] => { results := [.lit (.bool true)], args := [d1, d2] }
  | _ => none }
def squeezeShortRow : OpenClaim := { program := "ytoeeoglddhhdiaadoor", sum := "0f2471afbaab52cdfbb0f5a9d3c69e5930fa2b95e2c8caefca44847df4cd4176", func := "solstice/solsticelaw28.SqueezeShort", spec := "squeezeShort", unfollowed := true, recurses := true, named := ["solstice/civil.lengths"], apart := false, laid := [("solstice/civil.lengths", laid_solstice_civil_lengths)] }
def SqueezeShortSaid : Prop := squeezeShortRow.holds Tryd.pinned (OpenSpec.ofChange squeezeShortSpec)

/-- ITS FALSE NEIGHBOUR: 'it returns false'. Refute it at one input. -/
def squeezeShortWrong : ChangeSpec := { name := "squeezeShort", fn := fun _ => fun
  | [d1, d2] => { results := [.lit (.bool false)], args := [d1, d2] }
  | _ => none }
def SqueezeShortWrongFalsely : Prop := squeezeShortRow.holds Tryd.pinned (OpenSpec.ofChange squeezeShortWrong)

/- THE SECOND FORM. 'bulk': how many values and letters a reading holds, each counted each time it is reached (what is shared counts as often as it is met; a slice's spare places count too). A statement '..UptoSaid' is the law's where the arguments, and the package variables that the reading takes, are together of bulk at most 1048576: NARROWER than '..Said'. Prove '..Said' where nothing that the law and all that it calls make is longer than what came in: it says more and counts as full. Else prove '..UptoSaid'. A law counts once. -/
mutual
def uptoBulk {H : Type} : DataW H → Nat
  | .lit (.string bytes) => bytes.length + 1
  | .lit _ => 1
  | .nil => 1
  | .ptr d => uptoBulk d + 1
  | .slice elems spare => uptoBulkAll elems + uptoBulkAll spare + 1
  | .agg parts => uptoBulkAll parts + 1
  | .iface _ d => uptoBulk d + 1
  | .map entries => uptoBulkEntries entries + 1
  | .held _ => 1
def uptoBulkAll {H : Type} : List (DataW H) → Nat
  | [] => 0
  | d :: r => uptoBulk d + uptoBulkAll r
def uptoBulkEntries {H : Type} : List (Lit × DataW H) → Nat
  | [] => 0
  | x :: r => uptoBulkEntry x + uptoBulkEntries r
def uptoBulkEntry {H : Type} : Lit × DataW H → Nat
  | (.string bytes, d) => bytes.length + uptoBulk d + 1
  | (_, d) => uptoBulk d + 1
 end
def uptoSmall : (H : Type) → List (DataW H) → Bool := fun _ ds => decide (uptoBulkAll ds ≤ 1048576)
def OpenSpec.upto (s : _root_.Go.ChangeSpec) : _root_.Go.OpenSpec := { _root_.Go.OpenSpec.ofChange s with cond := some uptoSmall }

/-- 'solsticelaw24.LocalTells', WHERE WHAT IT READS IS OF BULK AT MOST 1048576: true; the input reads as it did. -/
def localTellsUptoRow : OpenClaim := { program := "ytoeeoglddhhdiaadoor", sum := "0f2471afbaab52cdfbb0f5a9d3c69e5930fa2b95e2c8caefca44847df4cd4176", func := "solstice/solsticelaw24.LocalTells", spec := "localTells", unfollowed := true, recurses := true, named := ["solstice/civil.lengths"], apart := false, laid := [("solstice/civil.lengths", laid_solstice_civil_lengths)], narrowed := true }
def LocalTellsUptoSaid : Prop := localTellsUptoRow.holds Tryd.pinned (OpenSpec.upto localTellsSpec)

/-- 'solsticelaw24.LocalBack', WHERE WHAT IT READS IS OF BULK AT MOST 1048576: true; the input reads as it did. -/
def localBackUptoRow : OpenClaim := { program := "ytoeeoglddhhdiaadoor", sum := "0f2471afbaab52cdfbb0f5a9d3c69e5930fa2b95e2c8caefca44847df4cd4176", func := "solstice/solsticelaw24.LocalBack", spec := "localBack", unfollowed := true, recurses := true, named := ["solstice/civil.lengths"], apart := false, laid := [("solstice/civil.lengths", laid_solstice_civil_lengths)], narrowed := true }
def LocalBackUptoSaid : Prop := localBackUptoRow.holds Tryd.pinned (OpenSpec.upto localBackSpec)

/-- 'solsticelaw24.LocalGap', WHERE WHAT IT READS IS OF BULK AT MOST 1048576: true; the input reads as it did. -/
def localGapUptoRow : OpenClaim := { program := "ytoeeoglddhhdiaadoor", sum := "0f2471afbaab52cdfbb0f5a9d3c69e5930fa2b95e2c8caefca44847df4cd4176", func := "solstice/solsticelaw24.LocalGap", spec := "localGap", unfollowed := true, recurses := true, named := ["solstice/civil.lengths"], apart := false, laid := [("solstice/civil.lengths", laid_solstice_civil_lengths)], narrowed := true }
def LocalGapUptoSaid : Prop := localGapUptoRow.holds Tryd.pinned (OpenSpec.upto localGapSpec)

/-- 'solsticelaw23.TableTells', WHERE WHAT IT READS IS OF BULK AT MOST 1048576: true; the input reads as it did. -/
def tableTellsUptoRow : OpenClaim := { program := "ytoeeoglddhhdiaadoor", sum := "0f2471afbaab52cdfbb0f5a9d3c69e5930fa2b95e2c8caefca44847df4cd4176", func := "solstice/solsticelaw23.TableTells", spec := "tableTells", unfollowed := true, recurses := true, named := ["solstice/civil.lengths"], apart := false, laid := [("solstice/civil.lengths", laid_solstice_civil_lengths)], narrowed := true }
def TableTellsUptoSaid : Prop := tableTellsUptoRow.holds Tryd.pinned (OpenSpec.upto tableTellsSpec)

/-- 'solsticelaw23.TableYear', WHERE WHAT IT READS IS OF BULK AT MOST 1048576: true; the input reads as it did. -/
def tableYearUptoRow : OpenClaim := { program := "ytoeeoglddhhdiaadoor", sum := "0f2471afbaab52cdfbb0f5a9d3c69e5930fa2b95e2c8caefca44847df4cd4176", func := "solstice/solsticelaw23.TableYear", spec := "tableYear", unfollowed := true, recurses := true, named := ["solstice/civil.lengths"], apart := false, laid := [("solstice/civil.lengths", laid_solstice_civil_lengths)], narrowed := true }
def TableYearUptoSaid : Prop := tableYearUptoRow.holds Tryd.pinned (OpenSpec.upto tableYearSpec)

/-- 'solsticetop.TopHands', WHERE WHAT IT READS IS OF BULK AT MOST 1048576: true; the input reads as it did. -/
def topHandsUptoRow : OpenClaim := { program := "ytoeeoglddhhdiaadoor", sum := "0f2471afbaab52cdfbb0f5a9d3c69e5930fa2b95e2c8caefca44847df4cd4176", func := "solstice/solsticetop.TopHands", spec := "topHands", unfollowed := true, recurses := true, named := ["solstice/civil.lengths"], apart := false, laid := [("solstice/civil.lengths", laid_solstice_civil_lengths)], narrowed := true }
def TopHandsUptoSaid : Prop := topHandsUptoRow.holds Tryd.pinned (OpenSpec.upto topHandsSpec)

/-- 'solsticetop.TopFour', WHERE WHAT IT READS IS OF BULK AT MOST 1048576: true; the input reads as it did. -/
def topFourUptoRow : OpenClaim := { program := "ytoeeoglddhhdiaadoor", sum := "0f2471afbaab52cdfbb0f5a9d3c69e5930fa2b95e2c8caefca44847df4cd4176", func := "solstice/solsticetop.TopFour", spec := "topFour", unfollowed := true, recurses := true, named := ["solstice/civil.lengths"], apart := false, laid := [("solstice/civil.lengths", laid_solstice_civil_lengths)], narrowed := true }
def TopFourUptoSaid : Prop := topFourUptoRow.holds Tryd.pinned (OpenSpec.upto topFourSpec)

/-- 'solsticetop.TopMirror', WHERE WHAT IT READS IS OF BULK AT MOST 1048576: true; the input reads as it did. -/
def topMirrorUptoRow : OpenClaim := { program := "ytoeeoglddhhdiaadoor", sum := "0f2471afbaab52cdfbb0f5a9d3c69e5930fa2b95e2c8caefca44847df4cd4176", func := "solstice/solsticetop.TopMirror", spec := "topMirror", named := ["solstice/civil.lengths"], apart := false, laid := [("solstice/civil.lengths", laid_solstice_civil_lengths)], narrowed := true }
def TopMirrorUptoSaid : Prop := topMirrorUptoRow.holds Tryd.pinned (OpenSpec.upto topMirrorSpec)

/-- 'solsticetop.TopWest', WHERE WHAT IT READS IS OF BULK AT MOST 1048576: true; the input reads as it did. -/
def topWestUptoRow : OpenClaim := { program := "ytoeeoglddhhdiaadoor", sum := "0f2471afbaab52cdfbb0f5a9d3c69e5930fa2b95e2c8caefca44847df4cd4176", func := "solstice/solsticetop.TopWest", spec := "topWest", unfollowed := true, recurses := true, named := ["solstice/civil.lengths"], apart := false, laid := [("solstice/civil.lengths", laid_solstice_civil_lengths)], narrowed := true }
def TopWestUptoSaid : Prop := topWestUptoRow.holds Tryd.pinned (OpenSpec.upto topWestSpec)

/-- 'solsticelaw28.SqueezeTells', WHERE WHAT IT READS IS OF BULK AT MOST 1048576: true; the input reads as it did. -/
def squeezeTellsUptoRow : OpenClaim := { program := "ytoeeoglddhhdiaadoor", sum := "0f2471afbaab52cdfbb0f5a9d3c69e5930fa2b95e2c8caefca44847df4cd4176", func := "solstice/solsticelaw28.SqueezeTells", spec := "squeezeTells", unfollowed := true, recurses := true, named := ["solstice/civil.lengths"], apart := false, laid := [("solstice/civil.lengths", laid_solstice_civil_lengths)], narrowed := true }
def SqueezeTellsUptoSaid : Prop := squeezeTellsUptoRow.holds Tryd.pinned (OpenSpec.upto squeezeTellsSpec)

/-- 'solsticelaw28.SqueezeShort', WHERE WHAT IT READS IS OF BULK AT MOST 1048576: true; the input reads as it did. -/
def squeezeShortUptoRow : OpenClaim := { program := "ytoeeoglddhhdiaadoor", sum := "0f2471afbaab52cdfbb0f5a9d3c69e5930fa2b95e2c8caefca44847df4cd4176", func := "solstice/solsticelaw28.SqueezeShort", spec := "squeezeShort", unfollowed := true, recurses := true, named := ["solstice/civil.lengths"], apart := false, laid := [("solstice/civil.lengths", laid_solstice_civil_lengths)], narrowed := true }
def SqueezeShortUptoSaid : Prop := squeezeShortUptoRow.holds Tryd.pinned (OpenSpec.upto squeezeShortSpec)

end Rows
end Go.Proofs.YtoeeoglddhhdiaaDoor
