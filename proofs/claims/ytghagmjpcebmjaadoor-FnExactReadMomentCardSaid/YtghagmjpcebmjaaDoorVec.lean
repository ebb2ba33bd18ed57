/-
  Contracts of the functions on vectors.
-/
import Derived.Test.YtghagmjpcebmjaaDoorRows
import Derived.WalkKit
import Derived.BigQuiet
import Derived.Deep.QuietTactic
import Derived.WalkLawsBesides
import Derived.Deep.RegionHeld3
import Derived.Deep.DrawnRows
import Derived.Test.YtghagmjpcebmjaaDoorNum
import Derived.Test.YtghagmjpcebmjaaDoorMvec
namespace Go.Proofs.YtghagmjpcebmjaaDoor
set_option linter.unusedVariables false
set_option linter.unusedSimpArgs false
open Go.RowKit
attribute [local go_sem ↓] Go.wp_at_zero Go.wp_at_succ
attribute [local go_sem] nn_e2 nn_e3 nn_e4 nn_f2 nn_f3 nn_f4 nn_l2 nn_l3 nn_l4 nn_m3 nn_m4 nn_k4

theorem lToVector (x y z : Int) (w : World) :
    Calls Tryd.prog 28 #[.agg #[.int .i64 x, .int .i64 y, .int .i64 z]] w fun e w' => e = .returned (.agg #[.int .i64 x, .int .i64 y, .int .i64 z]) ∧ Below w.heap.size w w' := by
  go_enter Tryd.func28, Tryd.ntmps28
  go_wp2
  exact bodyPost_ret (v := .agg #[.int .i64 x, .int .i64 y, .int .i64 z]) (by simp [results, Tryd.results28, go_sem]) rfl ⟨rfl, by (repeat (first | exact Below.refl _ _ | assumption | (refine Below.drewN ?_ _) | (refine Below.drew ?_) | (refine Below.alloc ?_ (by first | (simp; done) | (simp; omega) | omega) _) | (refine Below.setCell ?_ (by first | (simp; done) | (simp; omega) | omega) _) | (refine Below.trans ?_ (Below.mono (by assumption) (by first | (simp; done) | (simp; omega) | omega)))))⟩
theorem lEqVector (x y z : Int) (w : World) :
    Calls Tryd.prog 47 #[.agg #[.int .i64 x, .int .i64 y, .int .i64 z], .agg #[.int .i64 x, .int .i64 y, .int .i64 z]] w fun e w' => e = .returned (.bool true) ∧ Below w.heap.size w w' := by
  go_enter Tryd.func47, Tryd.ntmps47
  go_wp2
  go_ret
  exact ⟨rfl, by (repeat (first | exact Below.refl _ _ | assumption | (refine Below.drewN ?_ _) | (refine Below.drew ?_) | (refine Below.alloc ?_ (by first | (simp; done) | (simp; omega) | omega) _) | (refine Below.setCell ?_ (by first | (simp; done) | (simp; omega) | omega) _) | (refine Below.trans ?_ (Below.mono (by assumption) (by first | (simp; done) | (simp; omega) | omega)))))⟩
theorem iComp (x : Int) (w : World) : Calls Tryd.prog 93 #[.int .i64 x] w fun e w' => e = .returned (.bool (inB x (-2000000) 2000000)) ∧ w = w' := by
  go_enter Tryd.func93, Tryd.ntmps93
  go_wp2_with (go_at_call 60; (with_reducible refine (iWithin _ _ _ _).mono ?_); rintro e w' ⟨rfl, rfl⟩)
  go_ret
  exact ⟨rfl, rfl⟩
theorem iValidVector (x y z : Int) (w : World) :
    Calls Tryd.prog 71 #[.agg #[.int .i64 x, .int .i64 y, .int .i64 z]] w fun e w' => e = .returned (.bool (okV x y z)) ∧ Below w.heap.size w w' := by
  unfold okV
  cases h1 : inB x (-2000000) 2000000 <;> cases h2 : inB y (-2000000) 2000000 <;> cases h3 : inB z (-2000000) 2000000
  all_goals
    go_enter Tryd.func71, Tryd.ntmps71
    go_wp2_with (go_at_call 93; (with_reducible refine (iComp _ _).mono ?_); rintro e w' ⟨rfl, rfl⟩)
    go_ret
    exact ⟨rfl, by (repeat (first | exact Below.refl _ _ | assumption | (refine Below.drewN ?_ _) | (refine Below.drew ?_) | (refine Below.alloc ?_ (by first | (simp; done) | (simp; omega) | omega) _) | (refine Below.setCell ?_ (by first | (simp; done) | (simp; omega) | omega) _) | (refine Below.trans ?_ (Below.mono (by assumption) (by first | (simp; done) | (simp; omega) | omega)))))⟩
theorem sOkV (x y z : Int) (w : World) :
    Calls Tryd.prog 69 #[.agg #[.int .i64 x, .int .i64 y, .int .i64 z]] w fun e w' => e = .returned (.bool (okV x y z)) ∧ Below w.heap.size w w' := by
  unfold okV
  cases h1 : inB x (-2000000) 2000000 <;> cases h2 : inB y (-2000000) 2000000 <;> cases h3 : inB z (-2000000) 2000000
  all_goals
    go_enter Tryd.func69, Tryd.ntmps69
    go_wp2_with (go_at_call 58; (with_reducible refine (sIn _ _ _ _).mono ?_); rintro e w' ⟨rfl, rfl⟩)
    go_ret
    exact ⟨rfl, by (repeat (first | exact Below.refl _ _ | assumption | (refine Below.drewN ?_ _) | (refine Below.drew ?_) | (refine Below.alloc ?_ (by first | (simp; done) | (simp; omega) | omega) _) | (refine Below.setCell ?_ (by first | (simp; done) | (simp; omega) | omega) _) | (refine Below.trans ?_ (Below.mono (by assumption) (by first | (simp; done) | (simp; omega) | omega)))))⟩
/-- The answers, with the error's code. -/
def dtA (a b c x y z : Int) : Int := if okV a b c && okV x y z then dotV a b c x y z else 0
def dtC (a b c x y z : Int) : Int := if okV a b c && okV x y z then 0 else 1
def coV (v a b c x y z : Int) : Int := if okV a b c && okV x y z then chV v (crX a b c x y z) (crY a b c x y z) (crZ a b c x y z) else 0
def coC (a b c x y z : Int) : Int := if okV a b c && okV x y z then chC (crX a b c x y z) (crY a b c x y z) (crZ a b c x y z) else 1
end Go.Proofs.YtghagmjpcebmjaaDoor
