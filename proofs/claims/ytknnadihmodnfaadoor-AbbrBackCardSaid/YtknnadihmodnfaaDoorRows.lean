/-
  NARROWER THAN 'FOR EVERY INPUT', by the rows' own cells (each row's printed sentence says how): AbbrBack: laid · TopNamed: laid.
  DERIVED. THE GIVEN ROWS OF THIS SEAT. 2 by the template 'for every input the law returns true; each argument reads behind the call as it read before'; 0 by the template 'total and deterministic' (their statements: YtknnadihmodnfaaDoorTotals.lean).
  GIVEN WITH THE SEED: the statements are not yours to turn. If you find one false, say at which input.
  Laid BY PROGRAM, IN A SANDBOX (cutbox-rows.mjs): the forced cells as the released guide's own fill.sh prints them over the translation f24e56b6dcea186a… (all of the seat's roots in one cut). By AI agents, Wed Nov 11 2026. No macro, syntax, notation, axiom, sorry.
-/
import Derived.Test.YtknnadihmodnfaaDoorChecked
import GoSem.Claim
import GoSem.ClaimJoined
import GoSem.ClaimMapViews
import Derived.JoinedTies
import Derived.KernelRfl
namespace Go.Proofs.YtknnadihmodnfaaDoor
/- THE CELL 'sum', in the pinned program and in every row, IS THE sha256 OF THE DUMP (.gsa) THAT YtknnadihmodnfaaDoorProg.lean LOADS. Nothing in Lean hashes anything: it is a label: what it is worth is what the hold of that sum in a sandbox is worth. -/
noncomputable def Tryd.pinned : Pinned := { name := "ytknnadihmodnfaadoor", sum := "f24e56b6dcea186a8e2071a902ec675edbed0957369213d9e657e075821b0754", checked := Tryd.checked }
namespace Rows
def none {H : Type} : Left H := { results := [], args := [] }

/- WHAT THE LISTED PACKAGE-LEVEL VARIABLES READ AS WHEN THE CALL BEGINS. Each datum BY PROGRAM (the guide's laid-datum.mjs) off the statement by which the dump's own 'gosem.cut.vars' lays the variable. In a bare row this is a premise. The card (YtknnadihmodnfaaDoorCards.lean) ties it to the program's text. -/
def laid_solstice_abbr_places {H : Type} : DataW H := .agg [.lit (.string [37, 115]), .lit (.string [37, 122])]

/-- 'solsticelaw08.AbbrBack': WHATEVER THE INPUT: true; the input reads as it did. -/
def abbrBackSpec : ChangeSpec := { name := "abbrBack", fn := fun _ => fun
  | [d1, d2, d3, d4, d5, d6] => { results := [.lit (.bool true)], args := [d1, d2, d3, d4, d5, d6] }
  | _ => none }
def abbrBackRow : OpenClaim := { program := "ytknnadihmodnfaadoor", sum := "f24e56b6dcea186a8e2071a902ec675edbed0957369213d9e657e075821b0754", func := "solstice/solsticelaw08.AbbrBack", spec := "abbrBack", inPlace := ["internal/bytealg.IndexByteString", "internal/bytealg.IndexString"], named := ["solstice/abbr.places", "internal/bytealg.MaxLen"], apart := false, laid := [("solstice/abbr.places", laid_solstice_abbr_places)] }
def AbbrBackSaid : Prop := abbrBackRow.holds Tryd.pinned (OpenSpec.ofChange abbrBackSpec)

/-- ITS FALSE NEIGHBOUR: 'it returns false'. Refute it at one input. -/
def abbrBackWrong : ChangeSpec := { name := "abbrBack", fn := fun _ => fun
  | [d1, d2, d3, d4, d5, d6] => { results := [.lit (.bool false)], args := [d1, d2, d3, d4, d5, d6] }
  | _ => none }
def AbbrBackWrongFalsely : Prop := abbrBackRow.holds Tryd.pinned (OpenSpec.ofChange abbrBackWrong)

/-- 'solsticetop.TopNamed': WHATEVER THE INPUT: true; the input reads as it did. -/
def topNamedSpec : ChangeSpec := { name := "topNamed", fn := fun _ => fun
  | [d1, d2, d3] => { results := [.lit (.bool true)], args := [d1, d2, d3] }
  | _ => none }
def topNamedRow : OpenClaim := { program := "ytknnadihmodnfaadoor", sum := "f24e56b6dcea186a8e2071a902ec675edbed0957369213d9e657e075821b0754", func := "solstice/solsticetop.TopNamed", spec := "topNamed", inPlace := ["internal/bytealg.IndexByteString", "internal/bytealg.IndexString"], named := ["solstice/abbr.places", "internal/bytealg.MaxLen"], apart := false, laid := [("solstice/abbr.places", laid_solstice_abbr_places)] }
def TopNamedSaid : Prop := topNamedRow.holds Tryd.pinned (OpenSpec.ofChange topNamedSpec)

/-- ITS FALSE NEIGHBOUR: 'it returns false'. Refute it at one input. -/
def topNamedWrong : ChangeSpec := { name := "topNamed", fn := fun _ => fun
  | [d1, d2, d3] => { results := [.lit (.bool false)], args := [d1, d2, d3] }
  | _ => none }
def TopNamedWrongFalsely : Prop := topNamedRow.holds Tryd.pinned (OpenSpec.ofChange topNamedWrong)

/- THE SECOND FORM. 'bulk': how many values and letters a reading holds, each counted each time it is reached (what is shared counts as often as it is met; a slice's spare places count too). A statement '..UptoSaid' is the law's where the arguments, and the package variables that the reading takes, are together of bulk at most 1048576: NARROWER than '..Said'. Prove '..Said' where nothing that the law and all that it calls make is longer than what came in: it says more and counts as full. Else prove '..UptoSaid'. A law counts once. -/
mutual
def uptoBulk {H : Type} : DataW H → Nat
  | .lit (.string bytes) => bytes.length + 1
  | .lit _ => 1
  | .nil => 1
  | .ptr d => uptoBulk d + 1
  | .slice elems spare => uptoBulkAll elems + uptoBulkAll spare + 1
  | .agg parts => uptoBulkAll parts + 1
  | .iface _ d => uptoBulk d + 1
  | .map entries => uptoBulkEntries entries + 1
  | .held _ => 1
def uptoBulkAll {H : Type} : List (DataW H) → Nat
  | [] => 0
  | d :: r => uptoBulk d + uptoBulkAll r
def uptoBulkEntries {H : Type} : List (Lit × DataW H) → Nat
  | [] => 0
  | x :: r => uptoBulkEntry x + uptoBulkEntries r
def uptoBulkEntry {H : Type} : Lit × DataW H → Nat
  | (.string bytes, d) => bytes.length + uptoBulk d + 1
  | (_, d) => uptoBulk d + 1
 end
def uptoSmall : (H : Type) → List (DataW H) → Bool := fun _ ds => decide (uptoBulkAll ds ≤ 1048576)
def OpenSpec.upto (s : _root_.Go.ChangeSpec) : _root_.Go.OpenSpec := { _root_.Go.OpenSpec.ofChange s with cond := some uptoSmall }

/-- 'solsticelaw08.AbbrBack', WHERE WHAT IT READS IS OF BULK AT MOST 1048576: true; the input reads as it did. -/
def abbrBackUptoRow : OpenClaim := { program := "ytknnadihmodnfaadoor", sum := "f24e56b6dcea186a8e2071a902ec675edbed0957369213d9e657e075821b0754", func := "solstice/solsticelaw08.AbbrBack", spec := "abbrBack", inPlace := ["internal/bytealg.IndexByteString", "internal/bytealg.IndexString"], named := ["solstice/abbr.places", "internal/bytealg.MaxLen"], apart := false, laid := [("solstice/abbr.places", laid_solstice_abbr_places)], narrowed := true }
def AbbrBackUptoSaid : Prop := abbrBackUptoRow.holds Tryd.pinned (OpenSpec.upto abbrBackSpec)

/-- 'solsticetop.TopNamed', WHERE WHAT IT READS IS OF BULK AT MOST 1048576: true; the input reads as it did. -/
def topNamedUptoRow : OpenClaim := { program := "ytknnadihmodnfaadoor", sum := "f24e56b6dcea186a8e2071a902ec675edbed0957369213d9e657e075821b0754", func := "solstice/solsticetop.TopNamed", spec := "topNamed", inPlace := ["internal/bytealg.IndexByteString", "internal/bytealg.IndexString"], named := ["solstice/abbr.places", "internal/bytealg.MaxLen"], apart := false, laid := [("solstice/abbr.places", laid_solstice_abbr_places)], narrowed := true }
def TopNamedUptoSaid : Prop := topNamedUptoRow.holds Tryd.pinned (OpenSpec.upto topNamedSpec)

end Rows
end Go.Proofs.YtknnadihmodnfaaDoor
