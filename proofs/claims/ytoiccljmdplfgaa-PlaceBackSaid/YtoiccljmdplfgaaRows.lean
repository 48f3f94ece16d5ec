/-
  No cell of these rows narrows 'for every input' (looked for: loops, veiled, ifaces, maps, wideKeys, modest, calm, conditions, laid).
  DERIVED. THE GIVEN ROWS OF THIS SEAT. 10 by the template 'for every input the law returns true; each argument reads behind the call as it read before'; 0 by the template 'total and deterministic' (their statements: YtoiccljmdplfgaaTotals.lean).
  GIVEN WITH THE SEED: the statements are not yours to turn. If you find one false, say at which input.
  Laid BY PROGRAM, IN A SANDBOX (cutbox-rows.mjs): the forced cells as the released guide's own fill.sh prints them over the translation 17ea12ec7ecf4487… (all of the seat's roots in one cut). By AI agents, Wed Nov 11 2026. No macro, syntax, notation, axiom, sorry.
-/
import Derived.Test.YtoiccljmdplfgaaChecked
import GoSem.Claim
import GoSem.ClaimJoined
import GoSem.ClaimMapViews
import Derived.JoinedTies
import Derived.KernelRfl
namespace Go.Proofs.Ytoiccljmdplfgaa
/- THE CELL 'sum', in the pinned program and in every row, IS THE sha256 OF THE DUMP (.gsa) THAT YtoiccljmdplfgaaProg.lean LOADS. Nothing in Lean hashes anything: it is a label: what it is worth is what the hold of that sum in a sandbox is worth. -/
noncomputable def Try.pinned : Pinned := { name := "ytoiccljmdplfgaa", sum := "17ea12ec7ecf4487d00465d1a2c59b739c7a2450868d17c5af2904d2c317cdaf", checked := Try.checked }
namespace Rows
def none {H : Type} : Left H := { results := [], args := [] }

/-- 'solsticelaw41.PlaneTurned': WHATEVER THE INPUT: true; the input reads as it did. -/
def planeTurnedSpec : ChangeSpec := { name := "planeTurned", fn := fun _ => fun
  | [d1, d2, d3, d4, d5] => { results := [.lit (.bool true)], args := [d1, d2, d3, d4, d5] }
  | _ => none }
def planeTurnedRow : OpenClaim := { program := "ytoiccljmdplfgaa", sum := "17ea12ec7ecf4487d00465d1a2c59b739c7a2450868d17c5af2904d2c317cdaf", func := "solstice/solsticelaw41.PlaneTurned", spec := "planeTurned", apart := false }
def PlaneTurnedSaid : Prop := planeTurnedRow.holds Try.pinned (OpenSpec.ofChange planeTurnedSpec)

/-- ITS FALSE NEIGHBOUR: 'it returns false'. Refute it at one input. -/
def planeTurnedWrong : ChangeSpec := { name := "planeTurned", fn := fun _ => fun
  | [d1, d2, d3, d4, d5] => { results := [.lit (.bool false)], args := [d1, d2, d3, d4, d5] }
  | _ => none }
def PlaneTurnedWrongFalsely : Prop := planeTurnedRow.holds Try.pinned (OpenSpec.ofChange planeTurnedWrong)

/-- 'solsticelaw44.AreaTells': WHATEVER THE INPUT: true; the input reads as it did. -/
def areaTellsSpec : ChangeSpec := { name := "areaTells", fn := fun _ => fun
  | [d1, d2, d3] => { results := [.lit (.bool true)], args := [d1, d2, d3] }
  | _ => none }
def areaTellsRow : OpenClaim := { program := "ytoiccljmdplfgaa", sum := "17ea12ec7ecf4487d00465d1a2c59b739c7a2450868d17c5af2904d2c317cdaf", func := "solstice/solsticelaw44.AreaTells", spec := "areaTells", unfollowed := true, recurses := true, apart := false }
def AreaTellsSaid : Prop := areaTellsRow.holds Try.pinned (OpenSpec.ofChange areaTellsSpec)

/-- ITS FALSE NEIGHBOUR: 'it returns false'. Refute it at one input. -/
def areaTellsWrong : ChangeSpec := { name := "areaTells", fn := fun _ => fun
  | [d1, d2, d3] => { results := [.lit (.bool false)], args := [d1, d2, d3] }
  | _ => none }
def AreaTellsWrongFalsely : Prop := areaTellsRow.holds Try.pinned (OpenSpec.ofChange areaTellsWrong)

/-- 'solsticelaw44.AreaSame': WHATEVER THE INPUT: true; the input reads as it did. -/
def areaSameSpec : ChangeSpec := { name := "areaSame", fn := fun _ => fun
  | [d1, d2, d3] => { results := [.lit (.bool true)], args := [d1, d2, d3] }
  | _ => none }
def areaSameRow : OpenClaim := { program := "ytoiccljmdplfgaa", sum := "17ea12ec7ecf4487d00465d1a2c59b739c7a2450868d17c5af2904d2c317cdaf", func := "solstice/solsticelaw44.AreaSame", spec := "areaSame", unfollowed := true, recurses := true, apart := false }
def AreaSameSaid : Prop := areaSameRow.holds Try.pinned (OpenSpec.ofChange areaSameSpec)

/-- ITS FALSE NEIGHBOUR: 'it returns false'. Refute it at one input. -/
def areaSameWrong : ChangeSpec := { name := "areaSame", fn := fun _ => fun
  | [d1, d2, d3] => { results := [.lit (.bool false)], args := [d1, d2, d3] }
  | _ => none }
def AreaSameWrongFalsely : Prop := areaSameRow.holds Try.pinned (OpenSpec.ofChange areaSameWrong)

/-- 'solsticelaw44.AreaCut': WHATEVER THE INPUT: true; the input reads as it did. -/
def areaCutSpec : ChangeSpec := { name := "areaCut", fn := fun _ => fun
  | [d1, d2, d3, d4] => { results := [.lit (.bool true)], args := [d1, d2, d3, d4] }
  | _ => none }
def areaCutRow : OpenClaim := { program := "ytoiccljmdplfgaa", sum := "17ea12ec7ecf4487d00465d1a2c59b739c7a2450868d17c5af2904d2c317cdaf", func := "solstice/solsticelaw44.AreaCut", spec := "areaCut", unfollowed := true, recurses := true, apart := false }
def AreaCutSaid : Prop := areaCutRow.holds Try.pinned (OpenSpec.ofChange areaCutSpec)

/-- ITS FALSE NEIGHBOUR: 'it returns false'. Refute it at one input. -/
def areaCutWrong : ChangeSpec := { name := "areaCut", fn := fun _ => fun
  | [d1, d2, d3, d4] => { results := [.lit (.bool false)], args := [d1, d2, d3, d4] }
  | _ => none }
def AreaCutWrongFalsely : Prop := areaCutRow.holds Try.pinned (OpenSpec.ofChange areaCutWrong)

/-- 'solsticetop.TopTriangle': WHATEVER THE INPUT: true; the input reads as it did. -/
def topTriangleSpec : ChangeSpec := { name := "topTriangle", fn := fun _ => fun
  | [d1, d2, d3] => { results := [.lit (.bool true)], args := [d1, d2, d3] }
  | _ => none }
def topTriangleRow : OpenClaim := { program := "ytoiccljmdplfgaa", sum := "17ea12ec7ecf4487d00465d1a2c59b739c7a2450868d17c5af2904d2c317cdaf", func := "solstice/solsticetop.TopTriangle", spec := "topTriangle", recurses := true, apart := false }
def TopTriangleSaid : Prop := topTriangleRow.holds Try.pinned (OpenSpec.ofChange topTriangleSpec)

/-- ITS FALSE NEIGHBOUR: 'it returns false'. Refute it at one input. -/
def topTriangleWrong : ChangeSpec := { name := "topTriangle", fn := fun _ => fun
  | [d1, d2, d3] => { results := [.lit (.bool false)], args := [d1, d2, d3] }
  | _ => none }
def TopTriangleWrongFalsely : Prop := topTriangleRow.holds Try.pinned (OpenSpec.ofChange topTriangleWrong)

/-- 'solsticetop.TopRead': WHATEVER THE INPUT: true; the input reads as it did. -/
def topReadSpec : ChangeSpec := { name := "topRead", fn := fun _ => fun
  | [d1, d2] => { results := [.lit (.bool true)], args := [d1, d2] }
  | _ => none }
def topReadRow : OpenClaim := { program := "ytoiccljmdplfgaa", sum := "17ea12ec7ecf4487d00465d1a2c59b739c7a2450868d17c5af2904d2c317cdaf", func := "solstice/solsticetop.TopRead", spec := "topRead", recurses := true, apart := false }
def TopReadSaid : Prop := topReadRow.holds Try.pinned (OpenSpec.ofChange topReadSpec)

/-- ITS FALSE NEIGHBOUR: 'it returns false'. Refute it at one input. -/
def topReadWrong : ChangeSpec := { name := "topRead", fn := fun _ => fun
  | [d1, d2] => { results := [.lit (.bool false)], args := [d1, d2] }
  | _ => none }
def TopReadWrongFalsely : Prop := topReadRow.holds Try.pinned (OpenSpec.ofChange topReadWrong)

/-- 'solsticelaw42.PlaceBack': WHATEVER THE INPUT: true; the input reads as it did. -/
def placeBackSpec : ChangeSpec := { name := "placeBack", fn := fun _ => fun
  | [d1, d2, d3, d4, d5] => { results := [.lit (.bool true)], args := [d1, d2, d3, d4, d5] }
  | _ => none }
def placeBackRow : OpenClaim := { program := "ytoiccljmdplfgaa", sum := "17ea12ec7ecf4487d00465d1a2c59b739c7a2450868d17c5af2904d2c317cdaf", func := "solstice/solsticelaw42.PlaceBack", spec := "placeBack", inPlace := ["internal/bytealg.IndexByteString", "internal/bytealg.IndexString", "internal/abi.NoEscape", "internal/bytealg.MakeNoZero"], recurses := true, named := ["internal/bytealg.MaxLen"], apart := false }
def PlaceBackSaid : Prop := placeBackRow.holds Try.pinned (OpenSpec.ofChange placeBackSpec)

/-- ITS FALSE NEIGHBOUR: 'it returns false'. Refute it at one input. -/
def placeBackWrong : ChangeSpec := { name := "placeBack", fn := fun _ => fun
  | [d1, d2, d3, d4, d5] => { results := [.lit (.bool false)], args := [d1, d2, d3, d4, d5] }
  | _ => none }
def PlaceBackWrongFalsely : Prop := placeBackRow.holds Try.pinned (OpenSpec.ofChange placeBackWrong)

/-- 'solsticelaw43.NearNone': WHATEVER THE INPUT: true; the input reads as it did. -/
def nearNoneSpec : ChangeSpec := { name := "nearNone", fn := fun _ => fun
  | [d1, d2, d3, d4, d5] => { results := [.lit (.bool true)], args := [d1, d2, d3, d4, d5] }
  | _ => none }
def nearNoneRow : OpenClaim := { program := "ytoiccljmdplfgaa", sum := "17ea12ec7ecf4487d00465d1a2c59b739c7a2450868d17c5af2904d2c317cdaf", func := "solstice/solsticelaw43.NearNone", spec := "nearNone", unfollowed := true, recurses := true, apart := false }
def NearNoneSaid : Prop := nearNoneRow.holds Try.pinned (OpenSpec.ofChange nearNoneSpec)

/-- ITS FALSE NEIGHBOUR: 'it returns false'. Refute it at one input. -/
def nearNoneWrong : ChangeSpec := { name := "nearNone", fn := fun _ => fun
  | [d1, d2, d3, d4, d5] => { results := [.lit (.bool false)], args := [d1, d2, d3, d4, d5] }
  | _ => none }
def NearNoneWrongFalsely : Prop := nearNoneRow.holds Try.pinned (OpenSpec.ofChange nearNoneWrong)

/-- 'solsticetop.TopHeld': WHATEVER THE INPUT: true; the input reads as it did. -/
def topHeldSpec : ChangeSpec := { name := "topHeld", fn := fun _ => fun
  | [d1, d2, d3] => { results := [.lit (.bool true)], args := [d1, d2, d3] }
  | _ => none }
def topHeldRow : OpenClaim := { program := "ytoiccljmdplfgaa", sum := "17ea12ec7ecf4487d00465d1a2c59b739c7a2450868d17c5af2904d2c317cdaf", func := "solstice/solsticetop.TopHeld", spec := "topHeld", unfollowed := true, recurses := true, apart := false }
def TopHeldSaid : Prop := topHeldRow.holds Try.pinned (OpenSpec.ofChange topHeldSpec)

/-- ITS FALSE NEIGHBOUR: 'it returns false'. Refute it at one input. -/
def topHeldWrong : ChangeSpec := { name := "topHeld", fn := fun _ => fun
  | [d1, d2, d3] => { results := [.lit (.bool false)], args := [d1, d2, d3] }
  | _ => none }
def TopHeldWrongFalsely : Prop := topHeldRow.holds Try.pinned (OpenSpec.ofChange topHeldWrong)

/-- 'solsticetop.TopOwn': WHATEVER THE INPUT: true; the input reads as it did. -/
def topOwnSpec : ChangeSpec := { name := "topOwn", fn := fun _ => fun
  | [d1, d2, d3] => { results := [.lit (.bool true)], args := [d1, d2, d3] }
  | _ => none }
def topOwnRow : OpenClaim := { program := "ytoiccljmdplfgaa", sum := "17ea12ec7ecf4487d00465d1a2c59b739c7a2450868d17c5af2904d2c317cdaf", func := "solstice/solsticetop.TopOwn", spec := "topOwn", unfollowed := true, recurses := true, apart := false }
def TopOwnSaid : Prop := topOwnRow.holds Try.pinned (OpenSpec.ofChange topOwnSpec)

/-- ITS FALSE NEIGHBOUR: 'it returns false'. Refute it at one input. -/
def topOwnWrong : ChangeSpec := { name := "topOwn", fn := fun _ => fun
  | [d1, d2, d3] => { results := [.lit (.bool false)], args := [d1, d2, d3] }
  | _ => none }
def TopOwnWrongFalsely : Prop := topOwnRow.holds Try.pinned (OpenSpec.ofChange topOwnWrong)

/- THE SECOND FORM. 'bulk': how many values and letters a reading holds, each counted each time it is reached (what is shared counts as often as it is met; a slice's spare places count too). A statement '..UptoSaid' is the law's where the arguments, and the package variables that the reading takes, are together of bulk at most 1048576: NARROWER than '..Said'. Prove '..Said' where nothing that the law and all that it calls make is longer than what came in: it says more and counts as full. Else prove '..UptoSaid'. A law counts once. -/
mutual
def uptoBulk {H : Type} : DataW H → Nat
  | .lit (.string bytes) => bytes.length + 1
  | .lit _ => 1
  | .nil => 1
  | .ptr d => uptoBulk d + 1
  | .slice elems spare => uptoBulkAll elems + uptoBulkAll spare + 1
  | .agg parts => uptoBulkAll parts + 1
  | .iface _ d => uptoBulk d + 1
  | .map entries => uptoBulkEntries entries + 1
  | .held _ => 1
def uptoBulkAll {H : Type} : List (DataW H) → Nat
  | [] => 0
  | d :: r => uptoBulk d + uptoBulkAll r
def uptoBulkEntries {H : Type} : List (Lit × DataW H) → Nat
  | [] => 0
  | x :: r => uptoBulkEntry x + uptoBulkEntries r
def uptoBulkEntry {H : Type} : Lit × DataW H → Nat
  | (.string bytes, d) => bytes.length + uptoBulk d + 1
  | (_, d) => uptoBulk d + 1
 end
def uptoSmall : (H : Type) → List (DataW H) → Bool := fun _ ds => decide (uptoBulkAll ds ≤ 1048576)
def OpenSpec.upto (s : _root_.Go.ChangeSpec) : _root_.Go.OpenSpec := { _root_.Go.OpenSpec.ofChange s with cond := some uptoSmall }

/-- 'solsticelaw41.PlaneTurned', WHERE WHAT IT READS IS OF BULK AT MOST 1048576: true; the input reads as it did. -/
def planeTurnedUptoRow : OpenClaim := { program := "ytoiccljmdplfgaa", sum := "17ea12ec7ecf4487d00465d1a2c59b739c7a2450868d17c5af2904d2c317cdaf", func := "solstice/solsticelaw41.PlaneTurned", spec := "planeTurned", apart := false, narrowed := true }
def PlaneTurnedUptoSaid : Prop := planeTurnedUptoRow.holds Try.pinned (OpenSpec.upto planeTurnedSpec)

/-- 'solsticelaw44.AreaTells', WHERE WHAT IT READS IS OF BULK AT MOST 1048576: true; the input reads as it did. -/
def areaTellsUptoRow : OpenClaim := { program := "ytoiccljmdplfgaa", sum := "17ea12ec7ecf4487d00465d1a2c59b739c7a2450868d17c5af2904d2c317cdaf", func := "solstice/solsticelaw44.AreaTells", spec := "areaTells", unfollowed := true, recurses := true, apart := false, narrowed := true }
def AreaTellsUptoSaid : Prop := areaTellsUptoRow.holds Try.pinned (OpenSpec.upto areaTellsSpec)

/-- 'solsticelaw44.AreaSame', WHERE WHAT IT READS IS OF BULK AT MOST 1048576: true; the input reads as it did. -/
def areaSameUptoRow : OpenClaim := { program := "ytoiccljmdplfgaa", sum := "17ea12ec7ecf4487d00465d1a2c59b739c7a2450868d17c5af2904d2c317cdaf", func := "solstice/solsticelaw44.AreaSame", spec := "areaSame", unfollowed := true, recurses := true, apart := false, narrowed := true }
def AreaSameUptoSaid : Prop := areaSameUptoRow.holds Try.pinned (OpenSpec.upto areaSameSpec)

/-- 'solsticelaw44.AreaCut', WHERE WHAT IT READS IS OF BULK AT MOST 1048576: true; the input reads as it did. -/
def areaCutUptoRow : OpenClaim := { program := "ytoiccljmdplfgaa", sum := "17ea12ec7ecf4487d00465d1a2c59b739c7a2450868d17c5af2904d2c317cdaf", func := "solstice/solsticelaw44.AreaCut", spec := "areaCut", unfollowed := true, recurses := true, apart := false, narrowed := true }
def AreaCutUptoSaid : Prop := areaCutUptoRow.holds Try.pinned (OpenSpec.upto areaCutSpec)

/-- 'solsticetop.TopTriangle', WHERE WHAT IT READS IS OF BULK AT MOST 1048576: true; the input reads as it did. -/
def topTriangleUptoRow : OpenClaim := { program := "ytoiccljmdplfgaa", sum := "17ea12ec7ecf4487d00465d1a2c59b739c7a2450868d17c5af2904d2c317cdaf", func := "solstice/solsticetop.TopTriangle", spec := "topTriangle", recurses := true, apart := false, narrowed := true }
def TopTriangleUptoSaid : Prop := topTriangleUptoRow.holds Try.pinned (OpenSpec.upto topTriangleSpec)

/-- 'solsticetop.TopRead', WHERE WHAT IT READS IS OF BULK AT MOST 1048576: true; the input reads as it did. -/
def topReadUptoRow : OpenClaim := { program := "ytoiccljmdplfgaa", sum := "17ea12ec7ecf4487d00465d1a2c59b739c7a2450868d17c5af2904d2c317cdaf", func := "solstice/solsticetop.TopRead", spec := "topRead", recurses := true, apart := false, narrowed := true }
def TopReadUptoSaid : Prop := topReadUptoRow.holds Try.pinned (OpenSpec.upto topReadSpec)

/-- 'solsticelaw42.PlaceBack', WHERE WHAT IT READS IS OF BULK AT MOST 1048576: true; the input reads as it did. -/
def placeBackUptoRow : OpenClaim := { program := "ytoiccljmdplfgaa", sum := "17ea12ec7ecf4487d00465d1a2c59b739c7a2450868d17c5af2904d2c317cdaf", func := "solstice/solsticelaw42.PlaceBack", spec := "placeBack", inPlace := ["internal/bytealg.IndexByteString", "internal/bytealg.IndexString", "internal/abi.NoEscape", "internal/bytealg.MakeNoZero"], recurses := true, named := ["internal/bytealg.MaxLen"], apart := false, narrowed := true }
def PlaceBackUptoSaid : Prop := placeBackUptoRow.holds Try.pinned (OpenSpec.upto placeBackSpec)

/-- 'solsticelaw43.NearNone', WHERE WHAT IT READS IS OF BULK AT MOST 1048576: true; the input reads as it did. -/
def nearNoneUptoRow : OpenClaim := { program := "ytoiccljmdplfgaa", sum := "17ea12ec7ecf4487d00465d1a2c59b739c7a2450868d17c5af2904d2c317cdaf", func := "solstice/solsticelaw43.NearNone", spec := "nearNone", unfollowed := true, recurses := true, apart := false, narrowed := true }
def NearNoneUptoSaid : Prop := nearNoneUptoRow.holds Try.pinned (OpenSpec.upto nearNoneSpec)

/-- 'solsticetop.TopHeld', WHERE WHAT IT READS IS OF BULK AT MOST 1048576: true; the input reads as it did. -/
def topHeldUptoRow : OpenClaim := { program := "ytoiccljmdplfgaa", sum := "17ea12ec7ecf4487d00465d1a2c59b739c7a2450868d17c5af2904d2c317cdaf", func := "solstice/solsticetop.TopHeld", spec := "topHeld", unfollowed := true, recurses := true, apart := false, narrowed := true }
def TopHeldUptoSaid : Prop := topHeldUptoRow.holds Try.pinned (OpenSpec.upto topHeldSpec)

/-- 'solsticetop.TopOwn', WHERE WHAT IT READS IS OF BULK AT MOST 1048576: true; the input reads as it did. -/
def topOwnUptoRow : OpenClaim := { program := "ytoiccljmdplfgaa", sum := "17ea12ec7ecf4487d00465d1a2c59b739c7a2450868d17c5af2904d2c317cdaf", func := "solstice/solsticetop.TopOwn", spec := "topOwn", unfollowed := true, recurses := true, apart := false, narrowed := true }
def TopOwnUptoSaid : Prop := topOwnUptoRow.holds Try.pinned (OpenSpec.upto topOwnSpec)

end Rows
end Go.Proofs.Ytoiccljmdplfgaa
