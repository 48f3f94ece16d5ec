/-
  YEARS (for seats without year.Turns): what At answers (the function is not in this seat).
-/
import Derived.Test.YtgdgkgeoigljcaaDoorYrT
namespace Go.Proofs.YtgdgkgeoigljcaaDoor.Yr
open Go.ChangeShapes Go.WideShapes Go.ChangeAt Go.RowKit
open Go.Proofs.YtgdgkgeoigljcaaDoor
open Go.Proofs.YtgdgkgeoigljcaaDoor.Wd
open Go.Proofs.YtgdgkgeoigljcaaDoor.Rec
open Go.Proofs.YtgdgkgeoigljcaaDoor.Civ (Tab Inv)
set_option linter.unusedVariables false
def atO (b c d : Int) (p q : St) (Y t : Int) : Int := if trE b c d p q Y = 0 then stO b c d (trA b c d p q Y) (trB b c d p q Y) t else 0
def atB (b c d : Int) (p q : St) (Y t : Int) : Bool := if trE b c d p q Y = 0 then sumB (trA b c d p q Y) (trB b c d p q Y) t else false
end Go.Proofs.YtgdgkgeoigljcaaDoor.Yr
