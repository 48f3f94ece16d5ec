/-
  No cell of these rows narrows 'for every input' (looked for: loops, veiled, ifaces, maps, wideKeys, modest, calm, conditions, laid).
  DERIVED. THE GIVEN ROWS OF THIS SEAT. 6 by the template 'for every input the law returns true; each argument reads behind the call as it read before'; 0 by the template 'total and deterministic' (their statements: YtknnadihmodnfaaTotals.lean).
  GIVEN WITH THE SEED: the statements are not yours to turn. If you find one false, say at which input.
  Laid BY PROGRAM, IN A SANDBOX (cutbox-rows.mjs): the forced cells as the released guide's own fill.sh prints them over the translation 21a16749e33c90e6… (all of the seat's roots in one cut). By AI agents, Wed Nov 11 2026. No macro, syntax, notation, axiom, sorry.
-/
import Derived.Test.YtknnadihmodnfaaChecked
import GoSem.Claim
import GoSem.ClaimJoined
import GoSem.ClaimMapViews
import Derived.JoinedTies
import Derived.KernelRfl
namespace Go.Proofs.Ytknnadihmodnfaa
/- THE CELL 'sum', in the pinned program and in every row, IS THE sha256 OF THE DUMP (.gsa) THAT YtknnadihmodnfaaProg.lean LOADS. Nothing in Lean hashes anything: it is a label: what it is worth is what the hold of that sum in a sandbox is worth. -/
noncomputable def Try.pinned : Pinned := { name := "ytknnadihmodnfaa", sum := "21a16749e33c90e68f4860ba649bc707b12eeee371213381fa7ba886ceb5f1dd", checked := Try.checked }
namespace Rows
def none {H : Type} : Left H := { results := [], args := [] }

/-- 'solsticelaw03.LittleWrites': WHATEVER THE INPUT: true; the input reads as it did. -/
def littleWritesSpec : ChangeSpec := { name := "littleWrites", fn := fun _ => fun
  | [d1, d2] => { results := [.lit (.bool true)], args := [d1, d2] }
  | _ => none }
def littleWritesRow : OpenClaim := { program := "ytknnadihmodnfaa", sum := "21a16749e33c90e68f4860ba649bc707b12eeee371213381fa7ba886ceb5f1dd", func := "solstice/solsticelaw03.LittleWrites", spec := "littleWrites", apart := false }
def LittleWritesSaid : Prop := littleWritesRow.holds Try.pinned (OpenSpec.ofChange littleWritesSpec)

/-- ITS FALSE NEIGHBOUR: 'it returns false'. Refute it at one input. -/
def littleWritesWrong : ChangeSpec := { name := "littleWrites", fn := fun _ => fun
  | [d1, d2] => { results := [.lit (.bool false)], args := [d1, d2] }
  | _ => none }
def LittleWritesWrongFalsely : Prop := littleWritesRow.holds Try.pinned (OpenSpec.ofChange littleWritesWrong)

/-- 'solsticelaw03.LittleBack': WHATEVER THE INPUT: true; the input reads as it did. -/
def littleBackSpec : ChangeSpec := { name := "littleBack", fn := fun _ => fun
  | [d1, d2] => { results := [.lit (.bool true)], args := [d1, d2] }
  | _ => none }
def littleBackRow : OpenClaim := { program := "ytknnadihmodnfaa", sum := "21a16749e33c90e68f4860ba649bc707b12eeee371213381fa7ba886ceb5f1dd", func := "solstice/solsticelaw03.LittleBack", spec := "littleBack", apart := false }
def LittleBackSaid : Prop := littleBackRow.holds Try.pinned (OpenSpec.ofChange littleBackSpec)

/-- ITS FALSE NEIGHBOUR: 'it returns false'. Refute it at one input. -/
def littleBackWrong : ChangeSpec := { name := "littleBack", fn := fun _ => fun
  | [d1, d2] => { results := [.lit (.bool false)], args := [d1, d2] }
  | _ => none }
def LittleBackWrongFalsely : Prop := littleBackRow.holds Try.pinned (OpenSpec.ofChange littleBackWrong)

/-- 'solsticetop.TopHexed': WHATEVER THE INPUT: true; the input reads as it did. -/
def topHexedSpec : ChangeSpec := { name := "topHexed", fn := fun _ => fun
  | [d] => { results := [.lit (.bool true)], args := [d] }
  | _ => none }
def topHexedRow : OpenClaim := { program := "ytknnadihmodnfaa", sum := "21a16749e33c90e68f4860ba649bc707b12eeee371213381fa7ba886ceb5f1dd", func := "solstice/solsticetop.TopHexed", spec := "topHexed", inPlace := ["internal/abi.NoEscape", "internal/bytealg.MakeNoZero"], apart := false }
def TopHexedSaid : Prop := topHexedRow.holds Try.pinned (OpenSpec.ofChange topHexedSpec)

/-- ITS FALSE NEIGHBOUR: 'it returns false'. Refute it at one input. -/
def topHexedWrong : ChangeSpec := { name := "topHexed", fn := fun _ => fun
  | [d] => { results := [.lit (.bool false)], args := [d] }
  | _ => none }
def TopHexedWrongFalsely : Prop := topHexedRow.holds Try.pinned (OpenSpec.ofChange topHexedWrong)

/-- 'solsticetop.TopDigits': WHATEVER THE INPUT: true; the input reads as it did. -/
def topDigitsSpec : ChangeSpec := { name := "topDigits", fn := fun _ => fun
  | [d1, d2] => { results := [.lit (.bool true)], args := [d1, d2] }
  | _ => none }
def topDigitsRow : OpenClaim := { program := "ytknnadihmodnfaa", sum := "21a16749e33c90e68f4860ba649bc707b12eeee371213381fa7ba886ceb5f1dd", func := "solstice/solsticetop.TopDigits", spec := "topDigits", inPlace := ["internal/abi.NoEscape", "internal/bytealg.MakeNoZero"], apart := false }
def TopDigitsSaid : Prop := topDigitsRow.holds Try.pinned (OpenSpec.ofChange topDigitsSpec)

/-- ITS FALSE NEIGHBOUR: 'it returns false'. Refute it at one input. -/
def topDigitsWrong : ChangeSpec := { name := "topDigits", fn := fun _ => fun
  | [d1, d2] => { results := [.lit (.bool false)], args := [d1, d2] }
  | _ => none }
def TopDigitsWrongFalsely : Prop := topDigitsRow.holds Try.pinned (OpenSpec.ofChange topDigitsWrong)

/-- 'solsticelaw13.LinkOne': WHATEVER THE INPUT: true; the input reads as it did. -/
def linkOneSpec : ChangeSpec := { name := "linkOne", fn := fun _ => fun
  | [d1, d2, d3] => { results := [.lit (.bool true)], args := [d1, d2, d3] }
  | _ => none }
def linkOneRow : OpenClaim := { program := "ytknnadihmodnfaa", sum := "21a16749e33c90e68f4860ba649bc707b12eeee371213381fa7ba886ceb5f1dd", func := "solstice/solsticelaw13.LinkOne", spec := "linkOne", unfollowed := true, recurses := true, apart := false }
def LinkOneSaid : Prop := linkOneRow.holds Try.pinned (OpenSpec.ofChange linkOneSpec)

/-- ITS FALSE NEIGHBOUR: 'it returns false'. Refute it at one input. -/
def linkOneWrong : ChangeSpec := { name := "linkOne", fn := fun _ => fun
  | [d1, d2, d3] => { results := [.lit (.bool false)], args := [d1, d2, d3] }
  | _ => none }
def LinkOneWrongFalsely : Prop := linkOneRow.holds Try.pinned (OpenSpec.ofChange linkOneWrong)

/-- 'solsticelaw41.PlaneTurned': WHATEVER THE INPUT: true; the input reads as it did. -/
def planeTurnedSpec : ChangeSpec := { name := "planeTurned", fn := fun _ => fun
  | [d1, d2, d3, d4, d5] => { results := [.lit (.bool true)], args := [d1, d2, d3, d4, d5] }
  | _ => none }
def planeTurnedRow : OpenClaim := { program := "ytknnadihmodnfaa", sum := "21a16749e33c90e68f4860ba649bc707b12eeee371213381fa7ba886ceb5f1dd", func := "solstice/solsticelaw41.PlaneTurned", spec := "planeTurned", apart := false }
def PlaneTurnedSaid : Prop := planeTurnedRow.holds Try.pinned (OpenSpec.ofChange planeTurnedSpec)

/-- ITS FALSE NEIGHBOUR: 'it returns false'. Refute it at one input. -/
def planeTurnedWrong : ChangeSpec := { name := "planeTurned", fn := fun _ => fun
  | [d1, d2, d3, d4, d5] => { results := [.lit (.bool false)], args := [d1, d2, d3, d4, d5] }
  | _ => none }
def PlaneTurnedWrongFalsely : Prop := planeTurnedRow.holds Try.pinned (OpenSpec.ofChange planeTurnedWrong)

/- THE SECOND FORM. 'bulk': how many values and letters a reading holds, each counted each time it is reached (what is shared counts as often as it is met; a slice's spare places count too). A statement '..UptoSaid' is the law's where the arguments, and the package variables that the reading takes, are together of bulk at most 1048576: NARROWER than '..Said'. Prove '..Said' where nothing that the law and all that it calls make is longer than what came in: it says more and counts as full. Else prove '..UptoSaid'. A law counts once. -/
mutual
def uptoBulk {H : Type} : DataW H → Nat
  | .lit (.string bytes) => bytes.length + 1
  | .lit _ => 1
  | .nil => 1
  | .ptr d => uptoBulk d + 1
  | .slice elems spare => uptoBulkAll elems + uptoBulkAll spare + 1
  | .agg parts => uptoBulkAll parts + 1
  | .iface _ d => uptoBulk d + 1
  | .map entries => uptoBulkEntries entries + 1
  | .held _ => 1
def uptoBulkAll {H : Type} : List (DataW H) → Nat
  | [] => 0
  | d :: r => uptoBulk d + uptoBulkAll r
def uptoBulkEntries {H : Type} : List (Lit × DataW H) → Nat
  | [] => 0
  | x :: r => uptoBulkEntry x + uptoBulkEntries r
def uptoBulkEntry {H : Type} : Lit × DataW H → Nat
  | (.string bytes, d) => bytes.length + uptoBulk d + 1
  | (_, d) => uptoBulk d + 1
 end
def uptoSmall : (H : Type) → List (DataW H) → Bool := fun _ ds => decide (uptoBulkAll ds ≤ 1048576)
def OpenSpec.upto (s : _root_.Go.ChangeSpec) : _root_.Go.OpenSpec := { _root_.Go.OpenSpec.ofChange s with cond := some uptoSmall }

/-- 'solsticelaw03.LittleWrites', WHERE WHAT IT READS IS OF BULK AT MOST 1048576: true; the input reads as it did. -/
def littleWritesUptoRow : OpenClaim := { program := "ytknnadihmodnfaa", sum := "21a16749e33c90e68f4860ba649bc707b12eeee371213381fa7ba886ceb5f1dd", func := "solstice/solsticelaw03.LittleWrites", spec := "littleWrites", apart := false, narrowed := true }
def LittleWritesUptoSaid : Prop := littleWritesUptoRow.holds Try.pinned (OpenSpec.upto littleWritesSpec)

/-- 'solsticelaw03.LittleBack', WHERE WHAT IT READS IS OF BULK AT MOST 1048576: true; the input reads as it did. -/
def littleBackUptoRow : OpenClaim := { program := "ytknnadihmodnfaa", sum := "21a16749e33c90e68f4860ba649bc707b12eeee371213381fa7ba886ceb5f1dd", func := "solstice/solsticelaw03.LittleBack", spec := "littleBack", apart := false, narrowed := true }
def LittleBackUptoSaid : Prop := littleBackUptoRow.holds Try.pinned (OpenSpec.upto littleBackSpec)

/-- 'solsticetop.TopHexed', WHERE WHAT IT READS IS OF BULK AT MOST 1048576: true; the input reads as it did. -/
def topHexedUptoRow : OpenClaim := { program := "ytknnadihmodnfaa", sum := "21a16749e33c90e68f4860ba649bc707b12eeee371213381fa7ba886ceb5f1dd", func := "solstice/solsticetop.TopHexed", spec := "topHexed", inPlace := ["internal/abi.NoEscape", "internal/bytealg.MakeNoZero"], apart := false, narrowed := true }
def TopHexedUptoSaid : Prop := topHexedUptoRow.holds Try.pinned (OpenSpec.upto topHexedSpec)

/-- 'solsticetop.TopDigits', WHERE WHAT IT READS IS OF BULK AT MOST 1048576: true; the input reads as it did. -/
def topDigitsUptoRow : OpenClaim := { program := "ytknnadihmodnfaa", sum := "21a16749e33c90e68f4860ba649bc707b12eeee371213381fa7ba886ceb5f1dd", func := "solstice/solsticetop.TopDigits", spec := "topDigits", inPlace := ["internal/abi.NoEscape", "internal/bytealg.MakeNoZero"], apart := false, narrowed := true }
def TopDigitsUptoSaid : Prop := topDigitsUptoRow.holds Try.pinned (OpenSpec.upto topDigitsSpec)

/-- 'solsticelaw13.LinkOne', WHERE WHAT IT READS IS OF BULK AT MOST 1048576: true; the input reads as it did. -/
def linkOneUptoRow : OpenClaim := { program := "ytknnadihmodnfaa", sum := "21a16749e33c90e68f4860ba649bc707b12eeee371213381fa7ba886ceb5f1dd", func := "solstice/solsticelaw13.LinkOne", spec := "linkOne", unfollowed := true, recurses := true, apart := false, narrowed := true }
def LinkOneUptoSaid : Prop := linkOneUptoRow.holds Try.pinned (OpenSpec.upto linkOneSpec)

/-- 'solsticelaw41.PlaneTurned', WHERE WHAT IT READS IS OF BULK AT MOST 1048576: true; the input reads as it did. -/
def planeTurnedUptoRow : OpenClaim := { program := "ytknnadihmodnfaa", sum := "21a16749e33c90e68f4860ba649bc707b12eeee371213381fa7ba886ceb5f1dd", func := "solstice/solsticelaw41.PlaneTurned", spec := "planeTurned", apart := false, narrowed := true }
def PlaneTurnedUptoSaid : Prop := planeTurnedUptoRow.holds Try.pinned (OpenSpec.upto planeTurnedSpec)

end Rows
end Go.Proofs.Ytknnadihmodnfaa
