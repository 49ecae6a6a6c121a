/-
  CONTRACTS: math/bits.Mul64, Mul; slices.Repeat of one element.
  Conditions: none beyond those that each states.
-/
import Derived.Test.YtlckjhbgdbhdmaaSlices
import Derived.Test.YtlckjhbgdbhdmaaKeep
import Derived.Deep.RegionHeld3
import Derived.Shelf.Bits.Mul64
import Derived.Laws.CopyOwn
namespace Go.Proofs.Ytlckjhbgdbhdmaa
open Go.ChangeShapes Go.WideShapes Go.ChangeAt Go.RowKit Go.Joins
set_option linter.unusedVariables false

end Go.Proofs.Ytlckjhbgdbhdmaa
