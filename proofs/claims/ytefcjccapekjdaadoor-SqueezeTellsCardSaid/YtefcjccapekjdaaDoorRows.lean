/-
  NARROWER THAN 'FOR EVERY INPUT', by the rows' own cells (each row's printed sentence says how): RecordTells: laid · LocalTells: laid · LocalBack: laid · LocalGap: laid · TableTells: laid · TableYear: laid · TopHands: laid · TopFour: laid · SqueezeTells: laid · SqueezeShort: laid · ShapeTells: laid · ShapeOne: laid.
  DERIVED. THE GIVEN ROWS OF THIS SEAT. 12 by the template 'for every input the law returns true; each argument reads behind the call as it read before'; 0 by the template 'total and deterministic' (their statements: YtefcjccapekjdaaDoorTotals.lean).
  GIVEN WITH THE SEED: the statements are not yours to turn. If you find one false, say at which input.
  Laid BY PROGRAM, IN A SANDBOX (cutbox-rows.mjs): the forced cells as the released guide's own fill.sh prints them over the translation aa401d716cb36e1a… (all of the seat's roots in one cut). By AI agents, Wed Nov 11 2026. No macro, syntax, notation, axiom, sorry.
-/
import Derived.Test.YtefcjccapekjdaaDoorChecked
import GoSem.Claim
import GoSem.ClaimJoined
import GoSem.ClaimMapViews
import Derived.JoinedTies
import Derived.KernelRfl
namespace Go.Proofs.YtefcjccapekjdaaDoor
/- THE CELL 'sum', in the pinned program and in every row, IS THE sha256 OF THE DUMP (.gsa) THAT YtefcjccapekjdaaDoorProg.lean LOADS. Nothing in Lean hashes anything: it is a label: what it is worth is what the hold of that sum in a sandbox is worth. -/
noncomputable def Tryd.pinned : Pinned := { name := "ytefcjccapekjdaadoor", sum := "aa401d716cb36e1a7b1edea4faea450e74a28f76c0782bb7386a980bb8745183", checked := Tryd.checked }
namespace Rows
def none {H : Type} : Left H := { results := [], args := [] }

/- WHAT THE LISTED PACKAGE-LEVEL VARIABLES READ AS WHEN THE CALL BEGINS. Each datum BY PROGRAM (the guide's laid-datum.mjs) off the statement by which the dump's own 'gosem.cut.vars' lays the variable. In a bare row this is a premise. The card (YtefcjccapekjdaaDoorCards.lean) ties it to the program's text. -/
def laid_solstice_civil_lengths {H : Type} : DataW H := .agg [.lit (.int .i64 31), .lit (.int .i64 28), .lit (.int .i64 31), .lit (.int .i64 30), .lit (.int .i64 31), .lit (.int .i64 30), .lit (.int .i64 31), .lit (.int .i64 31), .lit (.int .i64 30), .lit (.int .i64 31), .lit (.int .i64 30), .lit (.int .i64 31)]

/-- 'solsticelaw21.RecordTells': WHATEVER THE INPUT: true; the input reads as it did. -/
def recordTellsSpec : ChangeSpec := { name := "recordTells", fn := fun _ => fun
  | [d1, d2, d3, d4, d5, d6] => { results := [.lit (.bool true)], args := [d1, d2, d3, d4, d5, d6] }
  | _ => none }
def recordTellsRow : OpenClaim := { program := "ytefcjccapekjdaadoor", sum := "aa401d716cb36e1a7b1edea4faea450e74a28f76c0782bb7386a980bb8745183", func := "solstice/solsticelaw21.RecordTells", spec := "recordTells", named := ["solstice/civil.lengths"], apart := false, laid := [("solstice/civil.lengths", laid_solstice_civil_lengths)] }
def RecordTellsSaid : Prop := recordTellsRow.holds Tryd.pinned (OpenSpec.ofChange recordTellsSpec)

/-- ITS FALSE NEIGHBOUR: 'it returns false'. Refute it at one input. -/
def recordTellsWrong : ChangeSpec := { name := "recordTells", fn := fun _ => fun
  | [d1, d2, d3, d4, d5, d6] => { results := [.lit (.bool false)], args := [d1, d2, d3, d4, d5, d6] }
  | _ => none }
def RecordTellsWrongFalsely : Prop := recordTellsRow.holds Tryd.pinned (OpenSpec.ofChange recordTellsWrong)

/-- 'solsticelaw24.LocalTells': WHATEVER THE INPUT: true; the input reads as it did. -/
def localTellsSpec : ChangeSpec := { name := "localTells", fn := fun _ => fun
  | [d1, d2, d3] => { results := [.lit (.bool true)], args := [d1, d2, d3] }
  | _ => none }
def localTellsRow : OpenClaim := { program := "ytefcjccapekjdaadoor", sum := "aa401d716cb36e1a7b1edea4faea450e74a28f76c0782bb7386a980bb8745183", func := "solstice/solsticelaw24.LocalTells", spec := "localTells", unfollowed := true, recurses := true, named := ["solstice/civil.lengths"], apart := false, laid := [("solstice/civil.lengths", laid_solstice_civil_lengths)] }
def LocalTellsSaid : Prop := localTellsRow.holds Tryd.pinned (OpenSpec.ofChange localTellsSpec)

/-- ITS FALSE NEIGHBOUR: 'it returns false'. Refute it at one input. -/
def localTellsWrong : ChangeSpec := { name := "localTells", fn := fun _ => fun
  | [d1, d2, d3] => { results := [.lit (.bool false)], args := [d1, d2, d3] }
  | _ => none }
def LocalTellsWrongFalsely : Prop := localTellsRow.holds Tryd.pinned (OpenSpec.ofChange localTellsWrong)

/-- 'solsticelaw24.LocalBack': WHATEVER THE INPUT: true; the input reads as it did. -/
def localBackSpec : ChangeSpec := { name := "localBack", fn := fun _ => fun
  | [d1, d2] => { results := [.lit (.bool true)], args := [d1, d2] }
  | _ => none }
def localBackRow : OpenClaim := { program := "ytefcjccapekjdaadoor", sum := "aa401d716cb36e1a7b1edea4faea450e74a28f76c0782bb7386a980bb8745183", func := "solstice/solsticelaw24.LocalBack", spec := "localBack", unfollowed := true, recurses := true, named := ["solstice/civil.lengths"], apart := false, laid := [("solstice/civil.lengths", laid_solstice_civil_lengths)] }
def LocalBackSaid : Prop := localBackRow.holds Tryd.pinned (OpenSpec.ofChange localBackSpec)

/-- ITS FALSE NEIGHBOUR: 'it returns false'. Refute it at one input. -/
def localBackWrong : ChangeSpec := { name := "localBack", fn := fun _ => fun
  | [d1, d2] => { results := [.lit (.bool false)], args := [d1, d2] }
  | _ => none }
def LocalBackWrongFalsely : Prop := localBackRow.holds Tryd.pinned (OpenSpec.ofChange localBackWrong)

/-- 'solsticelaw24.LocalGap': WHATEVER THE INPUT: true; the input reads as it did. -/
def localGapSpec : ChangeSpec := { name := "localGap", fn := fun _ => fun
  | [d1, d2] => { results := [.lit (.bool true)], args := [d1, d2] }
  | _ => none }
def localGapRow : OpenClaim := { program := "ytefcjccapekjdaadoor", sum := "aa401d716cb36e1a7b1edea4faea450e74a28f76c0782bb7386a980bb8745183", func := "solstice/solsticelaw24.LocalGap", spec := "localGap", unfollowed := true, recurses := true, named := ["solstice/civil.lengths"], apart := false, laid := [("solstice/civil.lengths", laid_solstice_civil_lengths)] }
def LocalGapSaid : Prop := localGapRow.holds Tryd.pinned (OpenSpec.ofChange localGapSpec)

/-- ITS FALSE NEIGHBOUR: 'it returns false'. Refute it at one input. -/
def localGapWrong : ChangeSpec := { name := "localGap", fn := fun _ => fun
  | [d1, d2] => { results := [.lit (.bool false)], args := [d1, d2] }
  | _ => none }
def LocalGapWrongFalsely : Prop := localGapRow.holds Tryd.pinned (OpenSpec.ofChange localGapWrong)

/-- 'solsticelaw23.TableTells': WHATEVER THE INPUT: true; the input reads as it did. -/
def tableTellsSpec : ChangeSpec := { name := "tableTells", fn := fun _ => fun
  | [d1, d2, d3, d4] => { results := [.lit (.bool true)], args := [d1, d2, d3, d4] }
  | _ => none }
def tableTellsRow : OpenClaim := { program := "ytefcjccapekjdaadoor", sum := "aa401d716cb36e1a7b1edea4faea450e74a28f76c0782bb7386a980bb8745183", func := "solstice/solsticelaw23.TableTells", spec := "tableTells", unfollowed := true, recurses := true, named := ["solstice/civil.lengths"], apart := false, laid := [("solstice/civil.lengths", laid_solstice_civil_lengths)] }
def TableTellsSaid : Prop := tableTellsRow.holds Tryd.pinned (OpenSpec.ofChange tableTellsSpec)

/-- ITS FALSE NEIGHBOUR: 'it returns false'. Refute it at one input. -/
def tableTellsWrong : ChangeSpec := { name := "tableTells", fn := fun _ => fun
  | [d1, d2, d3, d4] => { results := [.lit (.bool false)], args := [d1, d2, d3, d4] }
  | _ => none }
def TableTellsWrongFalsely : Prop := tableTellsRow.holds Tryd.pinned (OpenSpec.ofChange tableTellsWrong)

/-- 'solsticelaw23.TableYear': WHATEVER THE INPUT: true; the input reads as it did. -/
def tableYearSpec : ChangeSpec := { name := "tableYear", fn := fun _ => fun
  | [d1, d2] => { results := [.lit (.bool true)], args := [d1, d2] }
  | _ => none }
def tableYearRow : OpenClaim := { program := "ytefcjccapekjdaadoor", sum := "aa401d716cb36e1a7b1edea4faea450e74a28f76c0782bb7386a980bb8745183", func := "solstice/solsticelaw23.TableYear", spec := "tableYear", unfollowed := true, recurses := true, named := ["solstice/civil.lengths"], apart := false, laid := [("solstice/civil.lengths", laid_solstice_civil_lengths)] }
def TableYearSaid : Prop := tableYearRow.holds Tryd.pinned (OpenSpec.ofChange tableYearSpec)

/-- ITS FALSE NEIGHBOUR: 'it returns false'. Refute it at one input. -/
def tableYearWrong : ChangeSpec := { name := "tableYear", fn := fun _ => fun
  | [d1, d2] => { results := [.lit (.bool false)], args := [d1, d2] }
  | _ => none }
def TableYearWrongFalsely : Prop := tableYearRow.holds Tryd.pinned (OpenSpec.ofChange tableYearWrong)

/-- 'solsticetop.TopHands': WHATEVER THE INPUT: true; the input reads as it did. -/
def topHandsSpec : ChangeSpec := { name := "topHands", fn := fun _ => fun
  | [d1, d2, d3] => { results := [.lit (.bool true)], args := [d1, d2, d3] }
  | _ => none }
def topHandsRow : OpenClaim := { program := "ytefcjccapekjdaadoor", sum := "aa401d716cb36e1a7b1edea4faea450e74a28f76c0782bb7386a980bb8745183", func := "solstice/solsticetop.TopHands", spec := "topHands", unfollowed := true, recurses := true, named := ["solstice/civil.lengths"], apart := false, laid := [("solstice/civil.lengths", laid_solstice_civil_lengths)] }
def TopHandsSaid : Prop := topHandsRow.holds Tryd.pinned (OpenSpec.ofChange topHandsSpec)

/-- ITS FALSE NEIGHBOUR: 'it returns false'. Refute it at one input. -/
def topHandsWrong : ChangeSpec := { name := "topHands", fn := fun _ => fun
  | [d1, d2, d3] => { results := [.lit (.bool false)], args := [d1, d2, d3] }
  | _ => none }
def TopHandsWrongFalsely : Prop := topHandsRow.holds Tryd.pinned (OpenSpec.ofChange topHandsWrong)

/-- 'solsticetop.TopFour': WHATEVER THE INPUT: true; the input reads as it did. -/
def topFourSpec : ChangeSpec := { name := "topFour", fn := fun _ => fun
  | [d1, d2] => { results := [.lit (.bool true)], args := [d1, d2] }
  | _ => none }
def topFourRow : OpenClaim := { program := "ytefcjccapekjdaadoor", sum := "aa401d716cb36e1a7b1edea4faea450e74a28f76c0782bb7386a980bb8745183", func := "solstice/solsticetop.TopFour", spec := "topFour", unfollowed := true, recurses := true, named := ["solstice/civil.lengths"], apart := false, laid := [("solstice/civil.lengths", laid_solstice_civil_lengths)] }
def TopFourSaid : Prop := topFourRow.holds Tryd.pinned (OpenSpec.ofChange topFourSpec)

/-- ITS FALSE NEIGHBOUR: 'it returns false'. Refute it at one input. -/
def topFourWrong : ChangeSpec := { name := "topFour", fn := fun _ => fun
  | [d1, d2] => { results := [.lit (.bool false)], args := [d1, d2] }
  | _ => none }
def TopFourWrongFalsely : Prop := topFourRow.holds Tryd.pinned (OpenSpec.ofChange topFourWrong)

/-- 'solsticelaw28.SqueezeTells': WHATEVER THE INPUT: true; the input reads as it did. -/
def squeezeTellsSpec : ChangeSpec := { name := "squeezeTells", fn := fun _ => fun
  | [d1, d2, d3] => { results := [.lit (.bool true)], args := [d1, d2, d3] }
  | _ => none }
def squeezeTellsRow : OpenClaim := { program := "ytefcjccapekjdaadoor", sum := "aa401d716cb36e1a7b1edea4faea450e74a28f76c0782bb7386a980bb8745183", func := "solstice/solsticelaw28.SqueezeTells", spec := "squeezeTells", unfollowed := true, recurses := true, named := ["solstice/civil.lengths"], apart := false, laid := [("solstice/civil.lengths", laid_solstice_civil_lengths)] }
def SqueezeTellsSaid : Prop := squeezeTellsRow.holds Tryd.pinned (OpenSpec.ofChange squeezeTellsSpec)

/-- ITS FALSE NEIGHBOUR: 'it returns false'. Refute it at one input. -/
def squeezeTellsWrong : ChangeSpec := { name := "squeezeTells", fn := fun _ => fun
  | [d1, d2, d3] => { results := [.lit (.bool false)], args := [d1, d2, d3] }
  | _ => none }
def SqueezeTellsWrongFalsely : Prop := squeezeTellsRow.holds Tryd.pinned (OpenSpec.ofChange squeezeTellsWrong)

/-- 'solsticelaw28.SqueezeShort': WHATEVER THE INPUT: true; the input reads as it did. -/
def squeezeShortSpec : ChangeSpec := { name := "squeezeShort", fn := fun _ => fun
  | [d1, d2] => { results := [.lit (.bool true)], args := [d1, d2] }
  | _ => none }
def squeezeShortRow : OpenClaim := { program := "ytefcjccapekjdaadoor", sum := "aa401d716cb36e1a7b1edea4faea450e74a28f76c0782bb7386a980bb8745183", func := "solstice/solsticelaw28.SqueezeShort", spec := "squeezeShort", unfollowed := true, recurses := true, named := ["solstice/civil.lengths"], apart := false, laid := [("solstice/civil.lengths", laid_solstice_civil_lengths)] }
def SqueezeShortSaid : Prop := squeezeShortRow.holds Tryd.pinned (OpenSpec.ofChange squeezeShortSpec)

/-- ITS FALSE NEIGHBOUR: 'it returns false'. Refute it at one input. -/
def squeezeShortWrong : ChangeSpec := { name := "squeezeShort", fn := fun _ => fun
  | [d1, d2] => { results := [.lit (.bool false)], args := [d1, d2] }
  | _ => none }
def SqueezeShortWrongFalsely : Prop := squeezeShortRow.holds Tryd.pinned (OpenSpec.ofChange squeezeShortWrong)

/-- 'solsticelaw26.ShapeTells': WHATEVER THE INPUT: true; the input reads as it did. -/
def shapeTellsSpec : ChangeSpec := { name := "shapeTells", fn := fun _ => fun
  | [d1, d2, d3, d4, d5, d6, d7, d8] => { results := [.lit (.bool true)], args := [d1, d2, d3, d4, d5, d6, d7, d8] }
  | _ => none }
def shapeTellsRow : OpenClaim := { program := "ytefcjccapekjdaadoor", sum := "aa401d716cb36e1a7b1edea4faea450e74a28f76c0782bb7386a980bb8745183", func := "solstice/solsticelaw26.ShapeTells", spec := "shapeTells", named := ["solstice/civil.lengths"], apart := false, laid := [("solstice/civil.lengths", laid_solstice_civil_lengths)] }
def ShapeTellsSaid : Prop := shapeTellsRow.holds Tryd.pinned (OpenSpec.ofChange shapeTellsSpec)

/-- ITS FALSE NEIGHBOUR: 'it returns false'. Refute it at one input. -/
def shapeTellsWrong : ChangeSpec := { name := "shapeTells", fn := fun _ => fun
  | [d1, d2, d3, d4, d5, d6, d7, d8] => { results := [.lit (.bool false)], args := [d1, d2, d3, d4, d5, d6, d7, d8] }
  | _ => none }
def ShapeTellsWrongFalsely : Prop := shapeTellsRow.holds Tryd.pinned (OpenSpec.ofChange shapeTellsWrong)

/-- 'solsticelaw26.ShapeOne': WHATEVER THE INPUT: true; the input reads as it did. -/
def shapeOneSpec : ChangeSpec := { name := "shapeOne", fn := fun _ => fun
  | [d1, d2, d3, d4, d5] => { results := [.lit (.bool true)], args := [d1, d2, d3, d4, d5] }
  | _ => none }
def shapeOneRow : OpenClaim := { program := "ytefcjccapekjdaadoor", sum := "aa401d716cb36e1a7b1edea4faea450e74a28f76c0782bb7386a980bb8745183", func := "solstice/solsticelaw26.ShapeOne", spec := "shapeOne", named := ["solstice/civil.lengths"], apart := false, laid := [("solstice/civil.lengths", laid_solstice_civil_lengths)] }
def ShapeOneSaid : Prop := shapeOneRow.holds Tryd.pinned (OpenSpec.ofChange shapeOneSpec)

/-- ITS FALSE NEIGHBOUR: 'it returns false'. Refute it at one input. -/
def shapeOneWrong : ChangeSpec := { name := "shapeOne", fn := fun _ => fun
  | [d1, d2, d3, d4, d5] => { results := [.lit (.bool false)], args := [d1, d2, d3, d4, d5] }
  | _ => none }
def ShapeOneWrongFalsely : Prop := shapeOneRow.holds Tryd.pinned (OpenSpec.ofChange shapeOneWrong)

/- THE SECOND FORM. 'bulk': how many values and letters a reading holds, each counted each time it is reached (what is shared counts as often as it is met; a slice's spare places count too). A statement '..UptoSaid' is the law's where the arguments, and the package variables that the reading takes, are together of bulk at most 1048576: NARROWER than '..Said'. Prove '..Said' where nothing that the law and all that it calls make is longer than what came in: it says more and counts as full. Else prove '..UptoSaid'. A law counts once. -/
mutual
def uptoBulk {H : Type} : DataW H → Nat
  | .lit (.string bytes) => bytes.length + 1
  | .lit _ => 1
  | .nil => 1
  | .ptr d => uptoBulk d + 1
  | .slice elems spare => uptoBulkAll elems + uptoBulkAll spare + 1
  | .agg parts => uptoBulkAll parts + 1
  | .iface _ d => uptoBulk d + 1
  | .map entries => uptoBulkEntries entries + 1
  | .held _ => 1
def uptoBulkAll {H : Type} : List (DataW H) → Nat
  | [] => 0
  | d :: r => uptoBulk d + uptoBulkAll r
def uptoBulkEntries {H : Type} : List (Lit × DataW H) → Nat
  | [] => 0
  | x :: r => uptoBulkEntry x + uptoBulkEntries r
def uptoBulkEntry {H : Type} : Lit × DataW H → Nat
  | (.string bytes, d) => bytes.length + uptoBulk d + 1
  | (_, d) => uptoBulk d + 1
 end
def uptoSmall : (H : Type) → List (DataW H) → Bool := fun _ ds => decide (uptoBulkAll ds ≤ 1048576)
def OpenSpec.upto (s : _root_.Go.ChangeSpec) : _root_.Go.OpenSpec := { _root_.Go.OpenSpec.ofChange s with cond := some uptoSmall }

/-- 'solsticelaw21.RecordTells', WHERE WHAT IT READS IS OF BULK AT MOST 1048576: true; the input reads as it did. -/
def recordTellsUptoRow : OpenClaim := { program := "ytefcjccapekjdaadoor", sum := "aa401d716cb36e1a7b1edea4faea450e74a28f76c0782bb7386a980bb8745183", func := "solstice/solsticelaw21.RecordTells", spec := "recordTells", named := ["solstice/civil.lengths"], apart := false, laid := [("solstice/civil.lengths", laid_solstice_civil_lengths)], narrowed := true }
def RecordTellsUptoSaid : Prop := recordTellsUptoRow.holds Tryd.pinned (OpenSpec.upto recordTellsSpec)

/-- 'solsticelaw24.LocalTells', WHERE WHAT IT READS IS OF BULK AT MOST 1048576: true; the input reads as it did. -/
def localTellsUptoRow : OpenClaim := { program := "ytefcjccapekjdaadoor", sum := "aa401d716cb36e1a7b1edea4faea450e74a28f76c0782bb7386a980bb8745183", func := "solstice/solsticelaw24.LocalTells", spec := "localTells", unfollowed := true, recurses := true, named := ["solstice/civil.lengths"], apart := false, laid := [("solstice/civil.lengths", laid_solstice_civil_lengths)], narrowed := true }
def LocalTellsUptoSaid : Prop := localTellsUptoRow.holds Tryd.pinned (OpenSpec.upto localTellsSpec)

/-- 'solsticelaw24.LocalBack', WHERE WHAT IT READS IS OF BULK AT MOST 1048576: true; the input reads as it did. -/
def localBackUptoRow : OpenClaim := { program := "ytefcjccapekjdaadoor", sum := "aa401d716cb36e1a7b1edea4faea450e74a28f76c0782bb7386a980bb8745183", func := "solstice/solsticelaw24.LocalBack", spec := "localBack", unfollowed := true, recurses := true, named := ["solstice/civil.lengths"], apart := false, laid := [("solstice/civil.lengths", laid_solstice_civil_lengths)], narrowed := true }
def LocalBackUptoSaid : Prop := localBackUptoRow.holds Tryd.pinned (OpenSpec.upto localBackSpec)

/-- 'solsticelaw24.LocalGap', WHERE WHAT IT READS IS OF BULK AT MOST 1048576: true; the input reads as it did. -/
def localGapUptoRow : OpenClaim := { program := "ytefcjccapekjdaadoor", sum := "aa401d716cb36e1a7b1edea4faea450e74a28f76c0782bb7386a980bb8745183", func := "solstice/solsticelaw24.LocalGap", spec := "localGap", unfollowed := true, recurses := true, named := ["solstice/civil.lengths"], apart := false, laid := [("solstice/civil.lengths", laid_solstice_civil_lengths)], narrowed := true }
def LocalGapUptoSaid : Prop := localGapUptoRow.holds Tryd.pinned (OpenSpec.upto localGapSpec)

/-- 'solsticelaw23.TableTells', WHERE WHAT IT READS IS OF BULK AT MOST 1048576: true; the input reads as it did. -/
def tableTellsUptoRow : OpenClaim := { program := "ytefcjccapekjdaadoor", sum := "aa401d716cb36e1a7b1edea4faea450e74a28f76c0782bb7386a980bb8745183", func := "solstice/solsticelaw23.TableTells", spec := "tableTells", unfollowed := true, recurses := true, named := ["solstice/civil.lengths"], apart := false, laid := [("solstice/civil.lengths", laid_solstice_civil_lengths)], narrowed := true }
def TableTellsUptoSaid : Prop := tableTellsUptoRow.holds Tryd.pinned (OpenSpec.upto tableTellsSpec)

/-- 'solsticelaw23.TableYear', WHERE WHAT IT READS IS OF BULK AT MOST 1048576: true; the input reads as it did. -/
def tableYearUptoRow : OpenClaim := { program := "ytefcjccapekjdaadoor", sum := "aa401d716cb36e1a7b1edea4faea450e74a28f76c0782bb7386a980bb8745183", func := "solstice/solsticelaw23.TableYear", spec := "tableYear", unfollowed := true, recurses := true, named := ["solstice/civil.lengths"], apart := false, laid := [("solstice/civil.lengths", laid_solstice_civil_lengths)], narrowed := true }
def TableYearUptoSaid : Prop := tableYearUptoRow.holds Tryd.pinned (OpenSpec.upto tableYearSpec)

/-- 'solsticetop.TopHands', WHERE WHAT IT READS IS OF BULK AT MOST 1048576: true; the input reads as it did. -/
def topHandsUptoRow : OpenClaim := { program := "ytefcjccapekjdaadoor", sum := "aa401d716cb36e1a7b1edea4faea450e74a28f76c0782bb7386a980bb8745183", func := "solstice/solsticetop.TopHands", spec := "topHands", unfollowed := true, recurses := true, named := ["solstice/civil.lengths"], apart := false, laid := [("solstice/civil.lengths", laid_solstice_civil_lengths)], narrowed := true }
def TopHandsUptoSaid : Prop := topHandsUptoRow.holds Tryd.pinned (OpenSpec.upto topHandsSpec)

/-- 'solsticetop.TopFour', WHERE WHAT IT READS IS OF BULK AT MOST 1048576: true; the input reads as it did. -/
def topFourUptoRow : OpenClaim := { program := "ytefcjccapekjdaadoor", sum := "aa401d716cb36e1a7b1edea4faea450e74a28f76c0782bb7386a980bb8745183", func := "solstice/solsticetop.TopFour", spec := "topFour", unfollowed := true, recurses := true, named := ["solstice/civil.lengths"], apart := false, laid := [("solstice/civil.lengths", laid_solstice_civil_lengths)], narrowed := true }
def TopFourUptoSaid : Prop := topFourUptoRow.holds Tryd.pinned (OpenSpec.upto topFourSpec)

/-- 'solsticelaw28.SqueezeTells', WHERE WHAT IT READS IS OF BULK AT MOST 1048576: true; the input reads as it did. -/
def squeezeTellsUptoRow : OpenClaim := { program := "ytefcjccapekjdaadoor", sum := "aa401d716cb36e1a7b1edea4faea450e74a28f76c0782bb7386a980bb8745183", func := "solstice/solsticelaw28.SqueezeTells", spec := "squeezeTells", unfollowed := true, recurses := true, named := ["solstice/civil.lengths"], apart := false, laid := [("solstice/civil.lengths", laid_solstice_civil_lengths)], narrowed := true }
def SqueezeTellsUptoSaid : Prop := squeezeTellsUptoRow.holds Tryd.pinned (OpenSpec.upto squeezeTellsSpec)

/-- 'solsticelaw28.SqueezeShort', WHERE WHAT IT READS IS OF BULK AT MOST 1048576: true; the input reads as it did. -/
def squeezeShortUptoRow : OpenClaim := { program := "ytefcjccapekjdaadoor", sum := "aa401d716cb36e1a7b1edea4faea450e74a28f76c0782bb7386a980bb8745183", func := "solstice/solsticelaw28.SqueezeShort", spec := "squeezeShort", unfollowed := true, recurses := true, named := ["solstice/civil.lengths"], apart := false, laid := [("solstice/civil.lengths", laid_solstice_civil_lengths)], narrowed := true }
def SqueezeShortUptoSaid : Prop := squeezeShortUptoRow.holds Tryd.pinned (OpenSpec.upto squeezeShortSpec)

/-- 'solsticelaw26.ShapeTells', WHERE WHAT IT READS IS OF BULK AT MOST 1048576: true; the input reads as it did. -/
def shapeTellsUptoRow : OpenClaim := { program := "ytefcjccapekjdaadoor", sum := "aa401d716cb36e1a7b1edea4faea450e74a28f76c0782bb7386a980bb8745183", func := "solstice/solsticelaw26.ShapeTells", spec := "shapeTells", named := ["solstice/civil.lengths"], apart := false, laid := [("solstice/civil.lengths", laid_solstice_civil_lengths)], narrowed := true }
def ShapeTellsUptoSaid : Prop := shapeTellsUptoRow.holds Tryd.pinned (OpenSpec.upto shapeTellsSpec)

/-- 'solsticelaw26.ShapeOne', WHERE WHAT IT READS IS OF BULK AT MOST 1048576: true; the input reads as it did. -/
def shapeOneUptoRow : OpenClaim := { program := "ytefcjccapekjdaadoor", sum := "aa401d716cb36e1a7b1edea4faea450e74a28f76c0782bb7386a980bb8745183", func := "solstice/solsticelaw26.ShapeOne", spec := "shapeOne", named := ["solstice/civil.lengths"], apart := false, laid := [("solstice/civil.lengths", laid_solstice_civil_lengths)], narrowed := true }
def ShapeOneUptoSaid : Prop := shapeOneUptoRow.holds Tryd.pinned (OpenSpec.upto shapeOneSpec)

end Rows
end Go.Proofs.YtefcjccapekjdaaDoor
