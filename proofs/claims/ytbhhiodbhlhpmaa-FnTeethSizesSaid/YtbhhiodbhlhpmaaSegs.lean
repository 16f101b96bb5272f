/-
  Slices of Segment: converted, sized, compared.
-/
import Derived.Test.YtbhhiodbhlhpmaaRow2
namespace Go.Proofs.Ytbhhiodbhlhpmaa
open Go.RowKit
set_option linter.unusedSimpArgs false
set_option linter.unusedVariables false





end Go.Proofs.Ytbhhiodbhlhpmaa
