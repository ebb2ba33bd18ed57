/-
  Contracts of the functions on vectors.
-/
import Derived.Test.YtmkmhljiajgibaaDoorRows
import Derived.WalkKit
import Derived.BigQuiet
import Derived.Deep.QuietTactic
import Derived.WalkLawsBesides
import Derived.Deep.RegionHeld3
import Derived.Deep.DrawnRows
import Derived.Test.YtmkmhljiajgibaaDoorNum
import Derived.Test.YtmkmhljiajgibaaDoorMvec
namespace Go.Proofs.YtmkmhljiajgibaaDoor
set_option linter.unusedVariables false
set_option linter.unusedSimpArgs false
open Go.RowKit
attribute [local go_sem ↓] Go.wp_at_zero Go.wp_at_succ
attribute [local go_sem] nn_e2 nn_e3 nn_e4 nn_f2 nn_f3 nn_f4 nn_l2 nn_l3 nn_l4 nn_m3 nn_m4 nn_k4

/-- The answers, with the error's code. -/
def dtA (a b c x y z : Int) : Int := if okV a b c && okV x y z then dotV a b c x y z else 0
def dtC (a b c x y z : Int) : Int := if okV a b c && okV x y z then 0 else 1
def coV (v a b c x y z : Int) : Int := if okV a b c && okV x y z then chV v (crX a b c x y z) (crY a b c x y z) (crZ a b c x y z) else 0
def coC (a b c x y z : Int) : Int := if okV a b c && okV x y z then chC (crX a b c x y z) (crY a b c x y z) (crZ a b c x y z) else 1
end Go.Proofs.YtmkmhljiajgibaaDoor
