/-
  Contracts of the arcs.
-/
import Derived.Test.YtmkmhljiajgibaaGreatDoorSin
import Derived.Test.YtmkmhljiajgibaaGreatDoorMarc
namespace Go.Proofs.YtmkmhljiajgibaaGreatDoor
set_option linter.unusedVariables false
set_option linter.unusedSimpArgs false
open Go.RowKit

end Go.Proofs.YtmkmhljiajgibaaGreatDoor
