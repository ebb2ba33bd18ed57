/-
  Contracts of the functions on angles: what each computes, over whatever arguments.
-/
import Derived.Test.YtgeipijifcebmaaDoorRows
import Derived.WalkKit
import Derived.WalkLawsBesides
import Derived.Test.YtgeipijifcebmaaDoorNum
namespace Go.Proofs.YtgeipijifcebmaaDoor
set_option linter.unusedVariables false
set_option linter.unusedSimpArgs false
open Go.RowKit

theorem iNormalAngle (a : Int) (w : World) (h1 : -9223372036854775808 ≤ a) (h2 : a ≤ 9223372036854775807) :
    Calls Tryd.prog 56 #[.int .i64 a] w fun e w' => e = .returned (.int .i64 (a % 360000)) ∧ w = w' := by
  by_cases h : 0 ≤ a
  · go_enter Tryd.func56, Tryd.ntmps56
    go_wp2
    go_ret
    exact ⟨rfl, rfl⟩
  · have hm := tmod_neg 360000 (show a < 0 by omega)
    by_cases h0 : (-a) % 360000 = 0
    · go_enter Tryd.func56, Tryd.ntmps56
      go_wp2
      go_ret
      exact ⟨ret_i (by omega), rfl⟩
    · go_enter Tryd.func56, Tryd.ntmps56
      go_wp2
      go_ret
      exact ⟨ret_i (by omega), rfl⟩
theorem sNormal (a : Int) (w : World) (h1 : -9223372036854775808 ≤ a) (h2 : a ≤ 9223372036854775807) :
    Calls Tryd.prog 87 #[.int .i64 a] w fun e w' => e = .returned (.int .i64 (a % 360000)) ∧ w = w' := by
  by_cases h : 0 ≤ a
  · go_enter Tryd.func87, Tryd.ntmps87
    go_wp2
    go_ret
    exact ⟨ret_i (by omega), rfl⟩
  · have hm := tmod_neg 360000 (show a < 0 by omega)
    go_enter Tryd.func87, Tryd.ntmps87
    go_wp2
    go_ret
    exact ⟨ret_i (by omega), rfl⟩
/-- Hours as an angle, with the error's code. -/
def aohA (h m : Int) : Int := if inB h 0 23 && inB m 0 59 then h * 15000 + m * 250 else 0
def aohC (h m : Int) : Int := if inB h 0 23 && inB m 0 59 then 0 else 2
theorem iAngleOfHours (h m : Int) (w : World) :
    Calls Tryd.prog 53 #[.int .i64 h, .int .i64 m] w fun e w' => e = .returned (.tuple #[.int .i64 (aohA h m), .int .i64 (aohC h m)]) ∧ w = w' := by
  cases h1 : inB h 0 23
  · have e1 : aohA h m = 0 := by simp [aohA, h1]
    have e2 : aohC h m = 2 := by simp [aohC, h1]
    rw [e1, e2]; clear e1 e2
    go_enter Tryd.func53, Tryd.ntmps53
    go_wp2_with (go_at_call 60; (with_reducible refine (iWithin _ _ _ _).mono ?_); rintro e w' ⟨rfl, rfl⟩)
    go_ret2
    exact ⟨rfl, rfl⟩
  · cases h2 : inB m 0 59
    · have e1 : aohA h m = 0 := by simp [aohA, h1, h2]
      have e2 : aohC h m = 2 := by simp [aohC, h1, h2]
      rw [e1, e2]; clear e1 e2
      go_enter Tryd.func53, Tryd.ntmps53
      go_wp2_with (go_at_call 60; (with_reducible refine (iWithin _ _ _ _).mono ?_); rintro e w' ⟨rfl, rfl⟩)
      go_ret2
      exact ⟨rfl, rfl⟩
    · have e1 : aohA h m = h * 15000 + m * 15000 / 60 := by simp [aohA, h1, h2]; omega
      have e2 : aohC h m = 0 := by simp [aohC, h1, h2]
      rw [e1, e2]; clear e1 e2
      have b1 := inB_t h1
      have b2 := inB_t h2
      go_enter Tryd.func53, Tryd.ntmps53
      go_wp2_with (go_at_call 60; (with_reducible refine (iWithin _ _ _ _).mono ?_); rintro e w' ⟨rfl, rfl⟩)
      go_ret2
      exact ⟨rfl, rfl⟩
/-- An angle as hours and minutes, with the error's code. -/
def hofA (a : Int) : Int := if inB a 0 359999 then a / 15000 else 0
def hofB (a : Int) : Int := if inB a 0 359999 then a % 15000 * 60 / 15000 else 0
def hofC (a : Int) : Int := if inB a 0 359999 then 0 else 2
theorem iHoursOf (a : Int) (w : World) :
    Calls Tryd.prog 54 #[.int .i64 a] w fun e w' => e = .returned (.tuple #[.int .i64 (hofA a), .int .i64 (hofB a), .int .i64 (hofC a)]) ∧ w = w' := by
  cases h1 : inB a 0 359999
  · have e1 : hofA a = 0 := by simp [hofA, h1]
    have e2 : hofB a = 0 := by simp [hofB, h1]
    have e3 : hofC a = 2 := by simp [hofC, h1]
    rw [e1, e2, e3]; clear e1 e2 e3
    go_enter Tryd.func54, Tryd.ntmps54
    go_wp2_with (go_at_call 60; (with_reducible refine (iWithin _ _ _ _).mono ?_); rintro e w' ⟨rfl, rfl⟩)
    go_ret3
    exact ⟨rfl, rfl⟩
  · have e1 : hofA a = a / 15000 := by simp [hofA, h1]
    have e2 : hofB a = a % 15000 * 60 / 15000 := by simp [hofB, h1]
    have e3 : hofC a = 0 := by simp [hofC, h1]
    rw [e1, e2, e3]; clear e1 e2 e3
    have b1 := inB_t h1
    go_enter Tryd.func54, Tryd.ntmps54
    go_wp2_with (go_at_call 60; (with_reducible refine (iWithin _ _ _ _).mono ?_); rintro e w' ⟨rfl, rfl⟩)
    go_ret3
    exact ⟨rfl, rfl⟩
/-- The angle from one angle to another one; its size. -/
def sgn (a b : Int) : Int := if (b - a) % 360000 > 180000 then (b - a) % 360000 - 360000 else (b - a) % 360000
def btw (a b : Int) : Int := min ((b - a) % 360000) (360000 - (b - a) % 360000)
theorem sgn_bd (a b : Int) : -180000 < sgn a b ∧ sgn a b ≤ 180000 := by unfold sgn; split <;> omega
theorem iBetween (a b : Int) (w : World) (h1 : -9223372036854775808 ≤ a) (h2 : a ≤ 9223372036854775807) (h3 : -9223372036854775808 ≤ b) (h4 : b ≤ 9223372036854775807) :
    Calls Tryd.prog 50 #[.int .i64 a, .int .i64 b] w fun e w' => e = .returned (.int .i64 (btw a b)) ∧ w = w' := by
  go_enter Tryd.func50, Tryd.ntmps50
  go_wp2_with (go_at_call 56; (with_reducible refine (iNormalAngle _ _ (by omega) (by omega)).mono ?_); rintro e w' ⟨rfl, rfl⟩)
  all_goals (go_ret; exact ⟨ret_i (by unfold btw; omega), rfl⟩)
/-- A turn towards an angle, with the error's code. -/
def turA (a b s : Int) : Int := if s < 0 then 0 else (a + max (-s) (min s (sgn a b))) % 360000
def turC (s : Int) : Int := if s < 0 then 2 else 0
end Go.Proofs.YtgeipijifcebmaaDoor
