/-
  Contracts of the functions on days, dates and moments: what each computes, over whatever arguments.
-/
import Derived.Test.YtgeipijifcebmaaDoorRows
import Derived.WalkKit
import Derived.BigQuiet
import Derived.Deep.QuietTactic
import Derived.WalkLawsBesides
import Derived.Test.YtgeipijifcebmaaDoorBase
import Derived.Test.YtgeipijifcebmaaDoorMt
import Derived.Lib.Hide
namespace Go.Proofs.YtgeipijifcebmaaDoor
set_option linter.unusedVariables false
set_option linter.unusedSimpArgs false
open Go.RowKit

theorem sDay (d : Int) (w : World) : Calls Tryd.prog 90 #[.int .i64 d] w fun e w' => e = .returned (.bool (inB d 0 99999)) ∧ w = w' := by
  go_enter Tryd.func90, Tryd.ntmps90
  go_wp2_with (go_at_call 59; (with_reducible refine (sIn _ _ _ _).mono ?_); rintro e w' ⟨rfl, rfl⟩)
  go_ret
  exact ⟨rfl, rfl⟩
theorem lToMoment (d m : Int) (w : World) :
    Calls Tryd.prog 25 #[.agg #[.int .i64 d, .int .i64 m]] w fun e w' => e = .returned (.agg #[.int .i64 d, .int .i64 m]) ∧ Below w.heap.size w w' := by
  go_enter Tryd.func25, Tryd.ntmps25
  go_wp2
  exact bodyPost_ret (v := .agg #[.int .i64 d, .int .i64 m]) (by simp [results, Tryd.results25, go_sem]) rfl ⟨rfl, by (repeat (first | exact Below.refl _ _ | assumption | (refine Below.drewN ?_ _) | (refine Below.drew ?_) | (refine Below.alloc ?_ (by first | (simp; done) | (simp; omega) | omega) _) | (refine Below.setCell ?_ (by first | (simp; done) | (simp; omega) | omega) _) | (refine Below.trans ?_ (Below.mono (by assumption) (by first | (simp; done) | (simp; omega) | omega)))))⟩
theorem iValidMoment (d m : Int) (w : World) :
    Calls Tryd.prog 65 #[.agg #[.int .i64 d, .int .i64 m]] w fun e w' => e = .returned (.bool (okM d m)) ∧ Below w.heap.size w w' := by
  unfold okM
  cases h1 : inB d 0 99999 <;> cases h2 : inB m 0 86399999
  all_goals
    go_enter Tryd.func65, Tryd.ntmps65
    go_wp2_with (go_at_call 60; (with_reducible refine (iWithin _ _ _ _).mono ?_); rintro e w' ⟨rfl, rfl⟩)
    go_ret
    exact ⟨rfl, by (repeat (first | exact Below.refl _ _ | assumption | (refine Below.drewN ?_ _) | (refine Below.drew ?_) | (refine Below.alloc ?_ (by first | (simp; done) | (simp; omega) | omega) _) | (refine Below.setCell ?_ (by first | (simp; done) | (simp; omega) | omega) _) | (refine Below.trans ?_ (Below.mono (by assumption) (by first | (simp; done) | (simp; omega) | omega)))))⟩
theorem sOkM (d m : Int) (w : World) :
    Calls Tryd.prog 63 #[.agg #[.int .i64 d, .int .i64 m]] w fun e w' => e = .returned (.bool (okM d m)) ∧ Below w.heap.size w w' := by
  unfold okM
  cases h1 : inB d 0 99999 <;> cases h2 : inB m 0 86399999
  all_goals
    go_enter Tryd.func63, Tryd.ntmps63
    go_wp2_with (first | (go_at_call 59; (with_reducible refine (sIn _ _ _ _).mono ?_); rintro e w' ⟨rfl, rfl⟩) | (go_at_call 90; (with_reducible refine (sDay _ _).mono ?_); rintro e w' ⟨rfl, rfl⟩))
    go_ret
    exact ⟨rfl, by (repeat (first | exact Below.refl _ _ | assumption | (refine Below.drewN ?_ _) | (refine Below.drew ?_) | (refine Below.alloc ?_ (by first | (simp; done) | (simp; omega) | omega) _) | (refine Below.setCell ?_ (by first | (simp; done) | (simp; omega) | omega) _) | (refine Below.trans ?_ (Below.mono (by assumption) (by first | (simp; done) | (simp; omega) | omega)))))⟩
/-- The day of the week, with the error's code. -/
def wdA (d : Int) : Int := if inB d 0 99999 then (d + 5) % 7 else 0
def wdC (d : Int) : Int := if inB d 0 99999 then 0 else 2
/-- What the reference's search for a day answers. -/
def finA (y m d : Int) : Int := if dayB y m d then dnum y m d else 0
def finB (y m d : Int) : Bool := dayB y m d && inB (dnum y m d) 0 99999
end Go.Proofs.YtgeipijifcebmaaDoor
