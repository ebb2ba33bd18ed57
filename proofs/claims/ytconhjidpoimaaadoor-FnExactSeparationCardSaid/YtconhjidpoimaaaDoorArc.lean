/-
  Contracts of the arcs.
-/
import Derived.Test.YtconhjidpoimaaaDoorSin
import Derived.Test.YtconhjidpoimaaaDoorMarc
namespace Go.Proofs.YtconhjidpoimaaaDoor
set_option linter.unusedVariables false
set_option linter.unusedSimpArgs false
open Go.RowKit

end Go.Proofs.YtconhjidpoimaaaDoor
