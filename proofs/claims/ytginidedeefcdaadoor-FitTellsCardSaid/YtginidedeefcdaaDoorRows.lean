/-
  NARROWER THAN 'FOR EVERY INPUT', by the rows' own cells (each row's printed sentence says how): FitTells: laid · FitWhy: laid · FitHolds: laid · FitAll: laid · TopLast: laid · TopClocks: laid · TopForms: laid · TopAgain: laid · TopAround: laid.
  DERIVED. THE GIVEN ROWS OF THIS SEAT. 9 by the template 'for every input the law returns true; each argument reads behind the call as it read before'; 0 by the template 'total and deterministic' (their statements: YtginidedeefcdaaDoorTotals.lean).
  GIVEN WITH THE SEED: the statements are not yours to turn. If you find one false, say at which input.
  Laid BY PROGRAM, IN A SANDBOX (cutbox-rows.mjs): the forced cells as the released guide's own fill.sh prints them over the translation 405bc74b45dcad75… (all of the seat's roots in one cut). By AI agents, Wed Nov 11 2026. No macro, syntax, notation, axiom, sorry.
-/
import Derived.Test.YtginidedeefcdaaDoorChecked
import GoSem.Claim
import GoSem.ClaimJoined
import GoSem.ClaimMapViews
import Derived.JoinedTies
import Derived.KernelRfl
namespace Go.Proofs.YtginidedeefcdaaDoor
/- THE CELL 'sum', in the pinned program and in every row, IS THE sha256 OF THE DUMP (.gsa) THAT YtginidedeefcdaaDoorProg.lean LOADS. Nothing in Lean hashes anything: it is a label: what it is worth is what the hold of that sum in a sandbox is worth. -/
noncomputable def Tryd.pinned : Pinned := { name := "ytginidedeefcdaadoor", sum := "405bc74b45dcad757bce446555d51939764bad42ad04da83e03619c311cc0db0", checked := Tryd.checked }
namespace Rows
def none {H : Type} : Left H := { results := [], args := [] }

/- WHAT THE LISTED PACKAGE-LEVEL VARIABLES READ AS WHEN THE CALL BEGINS. Each datum BY PROGRAM (the guide's laid-datum.mjs) off the statement by which the dump's own 'gosem.cut.vars' lays the variable. In a bare row this is a premise. The card (YtginidedeefcdaaDoorCards.lean) ties it to the program's text. -/
def laid_solstice_civil_lengths {H : Type} : DataW H := .agg [.lit (.int .i64 31), .lit (.int .i64 28), .lit (.int .i64 31), .lit (.int .i64 30), .lit (.int .i64 31), .lit (.int .i64 30), .lit (.int .i64 31), .lit (.int .i64 31), .lit (.int .i64 30), .lit (.int .i64 31), .lit (.int .i64 30), .lit (.int .i64 31)]
def laid_math_bits_deBruijn32tab {H : Type} : DataW H := .agg [.lit (.int .u8 0), .lit (.int .u8 1), .lit (.int .u8 28), .lit (.int .u8 2), .lit (.int .u8 29), .lit (.int .u8 14), .lit (.int .u8 24), .lit (.int .u8 3), .lit (.int .u8 30), .lit (.int .u8 22), .lit (.int .u8 20), .lit (.int .u8 15), .lit (.int .u8 25), .lit (.int .u8 17), .lit (.int .u8 4), .lit (.int .u8 8), .lit (.int .u8 31), .lit (.int .u8 27), .lit (.int .u8 13), .lit (.int .u8 23), .lit (.int .u8 21), .lit (.int .u8 19), .lit (.int .u8 16), .lit (.int .u8 7), .lit (.int .u8 26), .lit (.int .u8 12), .lit (.int .u8 18), .lit (.int .u8 6), .lit (.int .u8 11), .lit (.int .u8 5), .lit (.int .u8 10), .lit (.int .u8 9)]
def laid_math_bits_deBruijn64tab {H : Type} : DataW H := .agg [.lit (.int .u8 0), .lit (.int .u8 1), .lit (.int .u8 56), .lit (.int .u8 2), .lit (.int .u8 57), .lit (.int .u8 49), .lit (.int .u8 28), .lit (.int .u8 3), .lit (.int .u8 61), .lit (.int .u8 58), .lit (.int .u8 42), .lit (.int .u8 50), .lit (.int .u8 38), .lit (.int .u8 29), .lit (.int .u8 17), .lit (.int .u8 4), .lit (.int .u8 62), .lit (.int .u8 47), .lit (.int .u8 59), .lit (.int .u8 36), .lit (.int .u8 45), .lit (.int .u8 43), .lit (.int .u8 51), .lit (.int .u8 22), .lit (.int .u8 53), .lit (.int .u8 39), .lit (.int .u8 33), .lit (.int .u8 30), .lit (.int .u8 24), .lit (.int .u8 18), .lit (.int .u8 12), .lit (.int .u8 5), .lit (.int .u8 63), .lit (.int .u8 55), .lit (.int .u8 48), .lit (.int .u8 27), .lit (.int .u8 60), .lit (.int .u8 41), .lit (.int .u8 37), .lit (.int .u8 16), .lit (.int .u8 46), .lit (.int .u8 35), .lit (.int .u8 44), .lit (.int .u8 21), .lit (.int .u8 52), .lit (.int .u8 32), .lit (.int .u8 23), .lit (.int .u8 11), .lit (.int .u8 54), .lit (.int .u8 26), .lit (.int .u8 40), .lit (.int .u8 15), .lit (.int .u8 34), .lit (.int .u8 20), .lit (.int .u8 31), .lit (.int .u8 10), .lit (.int .u8 25), .lit (.int .u8 14), .lit (.int .u8 19), .lit (.int .u8 9), .lit (.int .u8 13), .lit (.int .u8 8), .lit (.int .u8 7), .lit (.int .u8 6)]
def laid_internal_strconv_uint64pow10 {H : Type} : DataW H := .agg [.lit (.int .u64 1), .lit (.int .u64 10), .lit (.int .u64 100), .lit (.int .u64 1000), .lit (.int .u64 10000), .lit (.int .u64 100000), .lit (.int .u64 1000000), .lit (.int .u64 10000000), .lit (.int .u64 100000000), .lit (.int .u64 1000000000), .lit (.int .u64 10000000000), .lit (.int .u64 100000000000), .lit (.int .u64 1000000000000), .lit (.int .u64 10000000000000), .lit (.int .u64 100000000000000), .lit (.int .u64 1000000000000000), .lit (.int .u64 10000000000000000), .lit (.int .u64 100000000000000000), .lit (.int .u64 1000000000000000000), .lit (.int .u64 10000000000000000000)]
def laid_solstice_clock_parts {H : Type} : DataW H := .agg [.lit (.int .i64 3600), .lit (.int .i64 60), .lit (.int .i64 1)]

/-- 'solsticelaw25.FitTells': WHATEVER THE INPUT: true; the input reads as it did. -/
def fitTellsSpec : ChangeSpec := { name := "fitTells", fn := fun _ => fun
  | [d1, d2, d3] => { results := [.lit (.bool true)], args := [d1, d2, d3] }
  | _ => none }
def fitTellsRow : OpenClaim := { program := "ytginidedeefcdaadoor", sum := "405bc74b45dcad757bce446555d51939764bad42ad04da83e03619c311cc0db0", func := "solstice/solsticelaw25.FitTells", spec := "fitTells", named := ["solstice/civil.lengths"], apart := false, laid := [("solstice/civil.lengths", laid_solstice_civil_lengths)] }
def FitTellsSaid : Prop := fitTellsRow.holds Tryd.pinned (OpenSpec.ofChange fitTellsSpec)

/-- ITS FALSE NEIGHBOUR: 'it returns false'. Refute it at one input. -/
def fitTellsWrong : ChangeSpec := { name := "fitTells", fn := fun _ => fun
  | [d1, d2, d3] => { results := [.lit (.bool false)], args := [d1, d2, d3] }
  | _ => none }
def FitTellsWrongFalsely : Prop := fitTellsRow.holds Tryd.pinned (OpenSpec.ofChange fitTellsWrong)

/-- 'solsticelaw25.FitWhy': WHATEVER THE INPUT: true; the input reads as it did. -/
def fitWhySpec : ChangeSpec := { name := "fitWhy", fn := fun _ => fun
  | [d1, d2] => { results := [.lit (.bool true)], args := [d1, d2] }
  | _ => none }
def fitWhyRow : OpenClaim := { program := "ytginidedeefcdaadoor", sum := "405bc74b45dcad757bce446555d51939764bad42ad04da83e03619c311cc0db0", func := "solstice/solsticelaw25.FitWhy", spec := "fitWhy", named := ["solstice/civil.lengths"], apart := false, laid := [("solstice/civil.lengths", laid_solstice_civil_lengths)] }
def FitWhySaid : Prop := fitWhyRow.holds Tryd.pinned (OpenSpec.ofChange fitWhySpec)

/-- ITS FALSE NEIGHBOUR: 'it returns false'. Refute it at one input. -/
def fitWhyWrong : ChangeSpec := { name := "fitWhy", fn := fun _ => fun
  | [d1, d2] => { results := [.lit (.bool false)], args := [d1, d2] }
  | _ => none }
def FitWhyWrongFalsely : Prop := fitWhyRow.holds Tryd.pinned (OpenSpec.ofChange fitWhyWrong)

/-- 'solsticelaw25.FitHolds': WHATEVER THE INPUT: true; the input reads as it did. -/
def fitHoldsSpec : ChangeSpec := { name := "fitHolds", fn := fun _ => fun
  | [d1, d2, d3] => { results := [.lit (.bool true)], args := [d1, d2, d3] }
  | _ => none }
def fitHoldsRow : OpenClaim := { program := "ytginidedeefcdaadoor", sum := "405bc74b45dcad757bce446555d51939764bad42ad04da83e03619c311cc0db0", func := "solstice/solsticelaw25.FitHolds", spec := "fitHolds", named := ["solstice/civil.lengths"], apart := false, laid := [("solstice/civil.lengths", laid_solstice_civil_lengths)] }
def FitHoldsSaid : Prop := fitHoldsRow.holds Tryd.pinned (OpenSpec.ofChange fitHoldsSpec)

/-- ITS FALSE NEIGHBOUR: 'it returns false'. Refute it at one input. -/
def fitHoldsWrong : ChangeSpec := { name := "fitHolds", fn := fun _ => fun
  | [d1, d2, d3] => { results := [.lit (.bool false)], args := [d1, d2, d3] }
  | _ => none }
def FitHoldsWrongFalsely : Prop := fitHoldsRow.holds Tryd.pinned (OpenSpec.ofChange fitHoldsWrong)

/-- 'solsticelaw25.FitAll': WHATEVER THE INPUT: true; the input reads as it did. -/
def fitAllSpec : ChangeSpec := { name := "fitAll", fn := fun _ => fun
  | [d1, d2] => { results := [.lit (.bool true)], args := [d1, d2] }
  | _ => none }
def fitAllRow : OpenClaim := { program := "ytginidedeefcdaadoor", sum := "405bc74b45dcad757bce446555d51939764bad42ad04da83e03619c311cc0db0", func := "solstice/solsticelaw25.FitAll", spec := "fitAll", named := ["solstice/civil.lengths"], apart := false, laid := [("solstice/civil.lengths", laid_solstice_civil_lengths)] }
def FitAllSaid : Prop := fitAllRow.holds Tryd.pinned (OpenSpec.ofChange fitAllSpec)

/-- ITS FALSE NEIGHBOUR: 'it returns false'. Refute it at one input. -/
def fitAllWrong : ChangeSpec := { name := "fitAll", fn := fun _ => fun
  | [d1, d2] => { results := [.lit (.bool false)], args := [d1, d2] }
  | _ => none }
def FitAllWrongFalsely : Prop := fitAllRow.holds Tryd.pinned (OpenSpec.ofChange fitAllWrong)

/-- 'solsticetop.TopLast': WHATEVER THE INPUT: true; the input reads as it did. -/
def topLastSpec : ChangeSpec := { name := "topLast", fn := fun _ => fun
  | [d1, d2, d3] => { results := [.lit (.bool true)], args := [d1, d2, d3] }
  | _ => none }
def topLastRow : OpenClaim := { program := "ytginidedeefcdaadoor", sum := "405bc74b45dcad757bce446555d51939764bad42ad04da83e03619c311cc0db0", func := "solstice/solsticetop.TopLast", spec := "topLast", inPlace := ["internal/bytealg.IndexByteString", "internal/bytealg.IndexString"], named := ["internal/bytealg.MaxLen", "solstice/civil.lengths"], apart := false, laid := [("solstice/civil.lengths", laid_solstice_civil_lengths)] }
def TopLastSaid : Prop := topLastRow.holds Tryd.pinned (OpenSpec.ofChange topLastSpec)

/-- ITS FALSE NEIGHBOUR: 'it returns false'. Refute it at one input. -/
def topLastWrong : ChangeSpec := { name := "topLast", fn := fun _ => fun
  | [d1, d2, d3] => { results := [.lit (.bool false)], args := [d1, d2, d3] }
  | _ => none }
def TopLastWrongFalsely : Prop := topLastRow.holds Tryd.pinned (OpenSpec.ofChange topLastWrong)

/-- 'solsticetop.TopClocks': WHATEVER THE INPUT: true; the input reads as it did. -/
def topClocksSpec : ChangeSpec := { name := "topClocks", fn := fun _ => fun
  | [d1, d2, d3, d4, d5, d6, d7] => { results := [.lit (.bool true)], args := [d1, d2, d3, d4, d5, d6, d7] }
  | _ => none }
def topClocksRow : OpenClaim := { program := "ytginidedeefcdaadoor", sum := "405bc74b45dcad757bce446555d51939764bad42ad04da83e03619c311cc0db0", func := "solstice/solsticetop.TopClocks", spec := "topClocks", named := ["solstice/civil.lengths", "solstice/clock.parts", "internal/strconv.uint64pow10", "math/bits.deBruijn32tab", "math/bits.deBruijn64tab"], apart := false, laid := [("math/bits.deBruijn32tab", laid_math_bits_deBruijn32tab), ("math/bits.deBruijn64tab", laid_math_bits_deBruijn64tab), ("internal/strconv.uint64pow10", laid_internal_strconv_uint64pow10), ("solstice/civil.lengths", laid_solstice_civil_lengths), ("solstice/clock.parts", laid_solstice_clock_parts)] }
def TopClocksSaid : Prop := topClocksRow.holds Tryd.pinned (OpenSpec.ofChange topClocksSpec)

/-- ITS FALSE NEIGHBOUR: 'it returns false'. Refute it at one input. -/
def topClocksWrong : ChangeSpec := { name := "topClocks", fn := fun _ => fun
  | [d1, d2, d3, d4, d5, d6, d7] => { results := [.lit (.bool false)], args := [d1, d2, d3, d4, d5, d6, d7] }
  | _ => none }
def TopClocksWrongFalsely : Prop := topClocksRow.holds Tryd.pinned (OpenSpec.ofChange topClocksWrong)

/-- 'solsticetop.TopForms': WHATEVER THE INPUT: true; the input reads as it did. -/
def topFormsSpec : ChangeSpec := { name := "topForms", fn := fun _ => fun
  | [d1, d2, d3, d4] => { results := [.lit (.bool true)], args := [d1, d2, d3, d4] }
  | _ => none }
def topFormsRow : OpenClaim := { program := "ytginidedeefcdaadoor", sum := "405bc74b45dcad757bce446555d51939764bad42ad04da83e03619c311cc0db0", func := "solstice/solsticetop.TopForms", spec := "topForms", named := ["solstice/civil.lengths"], apart := false, laid := [("solstice/civil.lengths", laid_solstice_civil_lengths)] }
def TopFormsSaid : Prop := topFormsRow.holds Tryd.pinned (OpenSpec.ofChange topFormsSpec)

/-- ITS FALSE NEIGHBOUR: 'it returns false'. Refute it at one input. -/
def topFormsWrong : ChangeSpec := { name := "topForms", fn := fun _ => fun
  | [d1, d2, d3, d4] => { results := [.lit (.bool false)], args := [d1, d2, d3, d4] }
  | _ => none }
def TopFormsWrongFalsely : Prop := topFormsRow.holds Tryd.pinned (OpenSpec.ofChange topFormsWrong)

/-- 'solsticetop.TopAgain': WHATEVER THE INPUT: true; the input reads as it did. -/
def topAgainSpec : ChangeSpec := { name := "topAgain", fn := fun _ => fun
  | [d1, d2, d3] => { results := [.lit (.bool true)], args := [d1, d2, d3] }
  | _ => none }
def topAgainRow : OpenClaim := { program := "ytginidedeefcdaadoor", sum := "405bc74b45dcad757bce446555d51939764bad42ad04da83e03619c311cc0db0", func := "solstice/solsticetop.TopAgain", spec := "topAgain", named := ["solstice/civil.lengths"], apart := false, laid := [("solstice/civil.lengths", laid_solstice_civil_lengths)] }
def TopAgainSaid : Prop := topAgainRow.holds Tryd.pinned (OpenSpec.ofChange topAgainSpec)

/-- ITS FALSE NEIGHBOUR: 'it returns false'. Refute it at one input. -/
def topAgainWrong : ChangeSpec := { name := "topAgain", fn := fun _ => fun
  | [d1, d2, d3] => { results := [.lit (.bool false)], args := [d1, d2, d3] }
  | _ => none }
def TopAgainWrongFalsely : Prop := topAgainRow.holds Tryd.pinned (OpenSpec.ofChange topAgainWrong)

/-- 'solsticetop.TopAround': WHATEVER THE INPUT: true; the input reads as it did. -/
def topAroundSpec : ChangeSpec := { name := "topAround", fn := fun _ => fun
  | [d1, d2, d3, d4, d5] => { results := [.lit (.bool true)], args := [d1, d2, d3, d4, d5] }
  | _ => none }
def topAroundRow : OpenClaim := { program := "ytginidedeefcdaadoor", sum := "405bc74b45dcad757bce446555d51939764bad42ad04da83e03619c311cc0db0", func := "solstice/solsticetop.TopAround", spec := "topAround", inPlace := ["internal/bytealg.IndexByteString", "internal/bytealg.IndexString"], named := ["internal/bytealg.MaxLen", "solstice/civil.lengths", "internal/strconv.uint64pow10", "math/bits.deBruijn32tab", "math/bits.deBruijn64tab"], apart := false, laid := [("math/bits.deBruijn32tab", laid_math_bits_deBruijn32tab), ("math/bits.deBruijn64tab", laid_math_bits_deBruijn64tab), ("internal/strconv.uint64pow10", laid_internal_strconv_uint64pow10), ("solstice/civil.lengths", laid_solstice_civil_lengths)] }
def TopAroundSaid : Prop := topAroundRow.holds Tryd.pinned (OpenSpec.ofChange topAroundSpec)

/-- ITS FALSE NEIGHBOUR: 'it returns false'. Refute it at one input. -/
def topAroundWrong : ChangeSpec := { name := "topAround", fn := fun _ => fun
  | [d1, d2, d3, d4, d5] => { results := [.lit (.bool false)], args := [d1, d2, d3, d4, d5] }
  | _ => none }
def TopAroundWrongFalsely : Prop := topAroundRow.holds Tryd.pinned (OpenSpec.ofChange topAroundWrong)

/- THE SECOND FORM. 'bulk': how many values and letters a reading holds, each counted each time it is reached (what is shared counts as often as it is met; a slice's spare places count too). A statement '..UptoSaid' is the law's where the arguments, and the package variables that the reading takes, are together of bulk at most 1048576: NARROWER than '..Said'. Prove '..Said' where nothing that the law and all that it calls make is longer than what came in: it says more and counts as full. Else prove '..UptoSaid'. A law counts once. -/
mutual
def uptoBulk {H : Type} : DataW H → Nat
  | .lit (.string bytes) => bytes.length + 1
  | .lit _ => 1
  | .nil => 1
  | .ptr d => uptoBulk d + 1
  | .slice elems spare => uptoBulkAll elems + uptoBulkAll spare + 1
  | .agg parts => uptoBulkAll parts + 1
  | .iface _ d => uptoBulk d + 1
  | .map entries => uptoBulkEntries entries + 1
  | .held _ => 1
def uptoBulkAll {H : Type} : List (DataW H) → Nat
  | [] => 0
  | d :: r => uptoBulk d + uptoBulkAll r
def uptoBulkEntries {H : Type} : List (Lit × DataW H) → Nat
  | [] => 0
  | x :: r => uptoBulkEntry x + uptoBulkEntries r
def uptoBulkEntry {H : Type} : Lit × DataW H → Nat
  | (.string bytes, d) => bytes.length + uptoBulk d + 1
  | (_, d) => uptoBulk d + 1
 end
def uptoSmall : (H : Type) → List (DataW H) → Bool := fun _ ds => decide (uptoBulkAll ds ≤ 1048576)
def OpenSpec.upto (s : _root_.Go.ChangeSpec) : _root_.Go.OpenSpec := { _root_.Go.OpenSpec.ofChange s with cond := some uptoSmall }

/-- 'solsticelaw25.FitTells', WHERE WHAT IT READS IS OF BULK AT MOST 1048576: true; the input reads as it did. -/
def fitTellsUptoRow : OpenClaim := { program := "ytginidedeefcdaadoor", sum := "405bc74b45dcad757bce446555d51939764bad42ad04da83e03619c311cc0db0", func := "solstice/solsticelaw25.FitTells", spec := "fitTells", named := ["solstice/civil.lengths"], apart := false, laid := [("solstice/civil.lengths", laid_solstice_civil_lengths)], narrowed := true }
def FitTellsUptoSaid : Prop := fitTellsUptoRow.holds Tryd.pinned (OpenSpec.upto fitTellsSpec)

/-- 'solsticelaw25.FitWhy', WHERE WHAT IT READS IS OF BULK AT MOST 1048576: true; the input reads as it did. -/
def fitWhyUptoRow : OpenClaim := { program := "ytginidedeefcdaadoor", sum := "405bc74b45dcad757bce446555d51939764bad42ad04da83e03619c311cc0db0", func := "solstice/solsticelaw25.FitWhy", spec := "fitWhy", named := ["solstice/civil.lengths"], apart := false, laid := [("solstice/civil.lengths", laid_solstice_civil_lengths)], narrowed := true }
def FitWhyUptoSaid : Prop := fitWhyUptoRow.holds Tryd.pinned (OpenSpec.upto fitWhySpec)

/-- 'solsticelaw25.FitHolds', WHERE WHAT IT READS IS OF BULK AT MOST 1048576: true; the input reads as it did. -/
def fitHoldsUptoRow : OpenClaim := { program := "ytginidedeefcdaadoor", sum := "405bc74b45dcad757bce446555d51939764bad42ad04da83e03619c311cc0db0", func := "solstice/solsticelaw25.FitHolds", spec := "fitHolds", named := ["solstice/civil.lengths"], apart := false, laid := [("solstice/civil.lengths", laid_solstice_civil_lengths)], narrowed := true }
def FitHoldsUptoSaid : Prop := fitHoldsUptoRow.holds Tryd.pinned (OpenSpec.upto fitHoldsSpec)

/-- 'solsticelaw25.FitAll', WHERE WHAT IT READS IS OF BULK AT MOST 1048576: true; the input reads as it did. -/
def fitAllUptoRow : OpenClaim := { program := "ytginidedeefcdaadoor", sum := "405bc74b45dcad757bce446555d51939764bad42ad04da83e03619c311cc0db0", func := "solstice/solsticelaw25.FitAll", spec := "fitAll", named := ["solstice/civil.lengths"], apart := false, laid := [("solstice/civil.lengths", laid_solstice_civil_lengths)], narrowed := true }
def FitAllUptoSaid : Prop := fitAllUptoRow.holds Tryd.pinned (OpenSpec.upto fitAllSpec)

/-- 'solsticetop.TopLast', WHERE WHAT IT READS IS OF BULK AT MOST 1048576: true; the input reads as it did. -/
def topLastUptoRow : OpenClaim := { program := "ytginidedeefcdaadoor", sum := "405bc74b45dcad757bce446555d51939764bad42ad04da83e03619c311cc0db0", func := "solstice/solsticetop.TopLast", spec := "topLast", inPlace := ["internal/bytealg.IndexByteString", "internal/bytealg.IndexString"], named := ["internal/bytealg.MaxLen", "solstice/civil.lengths"], apart := false, laid := [("solstice/civil.lengths", laid_solstice_civil_lengths)], narrowed := true }
def TopLastUptoSaid : Prop := topLastUptoRow.holds Tryd.pinned (OpenSpec.upto topLastSpec)

/-- 'solsticetop.TopClocks', WHERE WHAT IT READS IS OF BULK AT MOST 1048576: true; the input reads as it did. -/
def topClocksUptoRow : OpenClaim := { program := "ytginidedeefcdaadoor", sum := "405bc74b45dcad757bce446555d51939764bad42ad04da83e03619c311cc0db0", func := "solstice/solsticetop.TopClocks", spec := "topClocks", named := ["solstice/civil.lengths", "solstice/clock.parts", "internal/strconv.uint64pow10", "math/bits.deBruijn32tab", "math/bits.deBruijn64tab"], apart := false, laid := [("math/bits.deBruijn32tab", laid_math_bits_deBruijn32tab), ("math/bits.deBruijn64tab", laid_math_bits_deBruijn64tab), ("internal/strconv.uint64pow10", laid_internal_strconv_uint64pow10), ("solstice/civil.lengths", laid_solstice_civil_lengths), ("solstice/clock.parts", laid_solstice_clock_parts)], narrowed := true }
def TopClocksUptoSaid : Prop := topClocksUptoRow.holds Tryd.pinned (OpenSpec.upto topClocksSpec)

/-- 'solsticetop.TopForms', WHERE WHAT IT READS IS OF BULK AT MOST 1048576: true; the input reads as it did. -/
def topFormsUptoRow : OpenClaim := { program := "ytginidedeefcdaadoor", sum := "405bc74b45dcad757bce446555d51939764bad42ad04da83e03619c311cc0db0", func := "solstice/solsticetop.TopForms", spec := "topForms", named := ["solstice/civil.lengths"], apart := false, laid := [("solstice/civil.lengths", laid_solstice_civil_lengths)], narrowed := true }
def TopFormsUptoSaid : Prop := topFormsUptoRow.holds Tryd.pinned (OpenSpec.upto topFormsSpec)

/-- 'solsticetop.TopAgain', WHERE WHAT IT READS IS OF BULK AT MOST 1048576: true; the input reads as it did. -/
def topAgainUptoRow : OpenClaim := { program := "ytginidedeefcdaadoor", sum := "405bc74b45dcad757bce446555d51939764bad42ad04da83e03619c311cc0db0", func := "solstice/solsticetop.TopAgain", spec := "topAgain", named := ["solstice/civil.lengths"], apart := false, laid := [("solstice/civil.lengths", laid_solstice_civil_lengths)], narrowed := true }
def TopAgainUptoSaid : Prop := topAgainUptoRow.holds Tryd.pinned (OpenSpec.upto topAgainSpec)

/-- 'solsticetop.TopAround', WHERE WHAT IT READS IS OF BULK AT MOST 1048576: true; the input reads as it did. -/
def topAroundUptoRow : OpenClaim := { program := "ytginidedeefcdaadoor", sum := "405bc74b45dcad757bce446555d51939764bad42ad04da83e03619c311cc0db0", func := "solstice/solsticetop.TopAround", spec := "topAround", inPlace := ["internal/bytealg.IndexByteString", "internal/bytealg.IndexString"], named := ["internal/bytealg.MaxLen", "solstice/civil.lengths", "internal/strconv.uint64pow10", "math/bits.deBruijn32tab", "math/bits.deBruijn64tab"], apart := false, laid := [("math/bits.deBruijn32tab", laid_math_bits_deBruijn32tab), ("math/bits.deBruijn64tab", laid_math_bits_deBruijn64tab), ("internal/strconv.uint64pow10", laid_internal_strconv_uint64pow10), ("solstice/civil.lengths", laid_solstice_civil_lengths)], narrowed := true }
def TopAroundUptoSaid : Prop := topAroundUptoRow.holds Tryd.pinned (OpenSpec.upto topAroundSpec)

end Rows
end Go.Proofs.YtginidedeefcdaaDoor
