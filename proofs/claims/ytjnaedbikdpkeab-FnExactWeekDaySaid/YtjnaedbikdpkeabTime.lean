/-
  Contracts of the functions on days, dates and moments: what each computes, over whatever arguments.
-/
import Derived.Test.YtjnaedbikdpkeabRows
import Derived.WalkKit
import Derived.BigQuiet
import Derived.Deep.QuietTactic
import Derived.WalkLawsBesides
import Derived.Test.YtjnaedbikdpkeabBase
import Derived.Test.YtjnaedbikdpkeabMt
namespace Go.Proofs.Ytjnaedbikdpkeab
set_option linter.unusedVariables false
set_option linter.unusedSimpArgs false
open Go.RowKit

theorem sDay (d : Int) (w : World) : Calls Try.prog 6 #[.int .i64 d] w fun e w' => e = .returned (.bool (inB d 0 99999)) ∧ w = w' := by
  go_enter Try.func6, Try.ntmps6
  go_wp2_with (go_at_call 8; (with_reducible refine (sIn _ _ _ _).mono ?_); rintro e w' ⟨rfl, rfl⟩)
  go_ret
  exact ⟨rfl, rfl⟩
/-- The day of the week, with the error's code. -/
def wdA (d : Int) : Int := if inB d 0 99999 then (d + 5) % 7 else 0
def wdC (d : Int) : Int := if inB d 0 99999 then 0 else 2
theorem iWeekDay (d : Int) (w : World) :
    Calls Try.prog 5 #[.int .i64 d] w fun e w' => e = .returned (.tuple #[.int .i64 (wdA d), .int .i64 (wdC d)]) ∧ w = w' := by
  cases h1 : inB d 0 99999
  · have e1 : wdA d = 0 := by simp [wdA, h1]
    have e2 : wdC d = 2 := by simp [wdC, h1]
    rw [e1, e2]; clear e1 e2
    go_enter Try.func5, Try.ntmps5
    go_wp2_with (go_at_call 7; (with_reducible refine (iWithin _ _ _ _).mono ?_); rintro e w' ⟨rfl, rfl⟩)
    go_ret2
    exact ⟨rfl, rfl⟩
  · have e1 : wdA d = (d + 5) % 7 := by simp [wdA, h1]
    have e2 : wdC d = 0 := by simp [wdC, h1]
    rw [e1, e2]; clear e1 e2
    have b1 := inB_t h1
    go_enter Try.func5, Try.ntmps5
    go_wp2_with (go_at_call 7; (with_reducible refine (iWithin _ _ _ _).mono ?_); rintro e w' ⟨rfl, rfl⟩)
    go_ret2
    exact ⟨rfl, rfl⟩
theorem sWeekDay (d : Int) (w : World) :
    Calls Try.prog 4 #[.int .i64 d] w fun e w' => e = .returned (.tuple #[.int .i64 (wdA d), .int .i64 (wdC d)]) ∧ w = w' := by
  cases h1 : inB d 0 99999
  · have e1 : wdA d = 0 := by simp [wdA, h1]
    have e2 : wdC d = 2 := by simp [wdC, h1]
    rw [e1, e2]; clear e1 e2
    go_enter Try.func4, Try.ntmps4
    go_wp2_with (go_at_call 6; (with_reducible refine (sDay _ _).mono ?_); rintro e w' ⟨rfl, rfl⟩)
    go_ret2
    exact ⟨rfl, rfl⟩
  · have e1 : wdA d = (d + 5) % 7 := by simp [wdA, h1]
    have e2 : wdC d = 0 := by simp [wdC, h1]
    rw [e1, e2]; clear e1 e2
    have b1 := inB_t h1
    go_enter Try.func4, Try.ntmps4
    go_wp2_with (go_at_call 6; (with_reducible refine (sDay _ _).mono ?_); rintro e w' ⟨rfl, rfl⟩)
    go_ret2
    exact ⟨rfl, rfl⟩
theorem walk_FnExactWeekDay (a0 : Int) (w : World) (w0 : (Lit.int .i64 a0).wf = true) :
    Calls Try.prog 3 #[.int .i64 a0] w fun e w' => e = .returned (.bool true) ∧ Below w.heap.size w w' := by
  go_enter Try.func3, Try.ntmps3
  go_wp2_with (first | (go_at_call 4; (with_reducible refine (sWeekDay _ _).mono ?_); rintro e w' ⟨rfl, rfl⟩) | (go_at_call 5; (with_reducible refine (iWeekDay _ _).mono ?_); rintro e w' ⟨rfl, rfl⟩))
  go_ret
  exact ⟨rfl, Below.refl _ _⟩
end Go.Proofs.Ytjnaedbikdpkeab
