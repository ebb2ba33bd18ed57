/-
  Contracts of the functions on angles: what each computes, over whatever arguments.
-/
import Derived.Test.YtjnaedbikdpkeaaRows
import Derived.WalkKit
import Derived.WalkLawsBesides
import Derived.Test.YtjnaedbikdpkeaaBase
namespace Go.Proofs.Ytjnaedbikdpkeaa
set_option linter.unusedVariables false
set_option linter.unusedSimpArgs false
open Go.RowKit

theorem iNormalAngle (a : Int) (w : World) (h1 : -9223372036854775808 ≤ a) (h2 : a ≤ 9223372036854775807) :
    Calls Try.prog 9 #[.int .i64 a] w fun e w' => e = .returned (.int .i64 (a % 360000)) ∧ w = w' := by
  by_cases h : 0 ≤ a
  · go_enter Try.func9, Try.ntmps9
    go_wp2
    go_ret
    exact ⟨rfl, rfl⟩
  · have hm := tmod_neg 360000 (show a < 0 by omega)
    by_cases h0 : (-a) % 360000 = 0
    · go_enter Try.func9, Try.ntmps9
      go_wp2
      go_ret
      exact ⟨ret_i (by omega), rfl⟩
    · go_enter Try.func9, Try.ntmps9
      go_wp2
      go_ret
      exact ⟨ret_i (by omega), rfl⟩
theorem sNormal (a : Int) (w : World) (h1 : -9223372036854775808 ≤ a) (h2 : a ≤ 9223372036854775807) :
    Calls Try.prog 17 #[.int .i64 a] w fun e w' => e = .returned (.int .i64 (a % 360000)) ∧ w = w' := by
  by_cases h : 0 ≤ a
  · go_enter Try.func17, Try.ntmps17
    go_wp2
    go_ret
    exact ⟨ret_i (by omega), rfl⟩
  · have hm := tmod_neg 360000 (show a < 0 by omega)
    go_enter Try.func17, Try.ntmps17
    go_wp2
    go_ret
    exact ⟨ret_i (by omega), rfl⟩
theorem sNormalAngle (a : Int) (w : World) (h1 : -9223372036854775808 ≤ a) (h2 : a ≤ 9223372036854775807) :
    Calls Try.prog 8 #[.int .i64 a] w fun e w' => e = .returned (.int .i64 (a % 360000)) ∧ w = w' := by
  go_enter Try.func8, Try.ntmps8
  go_wp2_with (go_at_call 17; (with_reducible refine (sNormal _ _ (by omega) (by omega)).mono ?_); rintro e w' ⟨rfl, rfl⟩)
  go_ret
  exact ⟨rfl, rfl⟩
theorem walk_FnExactNormalAngle (a0 : Int) (w : World) (w0 : (Lit.int .i64 a0).wf = true) :
    Calls Try.prog 4 #[.int .i64 a0] w fun e w' => e = .returned (.bool true) ∧ Below w.heap.size w w' := by
  obtain ⟨h1, h2⟩ := bd64 w0
  go_enter Try.func4, Try.ntmps4
  go_wp2_with (first | (go_at_call 8; (with_reducible refine (sNormalAngle _ _ (by omega) (by omega)).mono ?_); rintro e w' ⟨rfl, rfl⟩) | (go_at_call 9; (with_reducible refine (iNormalAngle _ _ (by omega) (by omega)).mono ?_); rintro e w' ⟨rfl, rfl⟩))
  go_ret
  exact ⟨rfl, Below.refl _ _⟩
/-- Hours as an angle, with the error's code. -/
def aohA (h m : Int) : Int := if inB h 0 23 && inB m 0 59 then h * 15000 + m * 250 else 0
def aohC (h m : Int) : Int := if inB h 0 23 && inB m 0 59 then 0 else 2
theorem iAngleOfHours (h m : Int) (w : World) :
    Calls Try.prog 11 #[.int .i64 h, .int .i64 m] w fun e w' => e = .returned (.tuple #[.int .i64 (aohA h m), .int .i64 (aohC h m)]) ∧ w = w' := by
  cases h1 : inB h 0 23
  · have e1 : aohA h m = 0 := by simp [aohA, h1]
    have e2 : aohC h m = 2 := by simp [aohC, h1]
    rw [e1, e2]; clear e1 e2
    go_enter Try.func11, Try.ntmps11
    go_wp2_with (go_at_call 19; (with_reducible refine (iWithin _ _ _ _).mono ?_); rintro e w' ⟨rfl, rfl⟩)
    go_ret2
    exact ⟨rfl, rfl⟩
  · cases h2 : inB m 0 59
    · have e1 : aohA h m = 0 := by simp [aohA, h1, h2]
      have e2 : aohC h m = 2 := by simp [aohC, h1, h2]
      rw [e1, e2]; clear e1 e2
      go_enter Try.func11, Try.ntmps11
      go_wp2_with (go_at_call 19; (with_reducible refine (iWithin _ _ _ _).mono ?_); rintro e w' ⟨rfl, rfl⟩)
      go_ret2
      exact ⟨rfl, rfl⟩
    · have e1 : aohA h m = h * 15000 + m * 15000 / 60 := by simp [aohA, h1, h2]; omega
      have e2 : aohC h m = 0 := by simp [aohC, h1, h2]
      rw [e1, e2]; clear e1 e2
      have b1 := inB_t h1
      have b2 := inB_t h2
      go_enter Try.func11, Try.ntmps11
      go_wp2_with (go_at_call 19; (with_reducible refine (iWithin _ _ _ _).mono ?_); rintro e w' ⟨rfl, rfl⟩)
      go_ret2
      exact ⟨rfl, rfl⟩
theorem sAngleOfHours (h m : Int) (w : World) :
    Calls Try.prog 10 #[.int .i64 h, .int .i64 m] w fun e w' => e = .returned (.tuple #[.int .i64 (aohA h m), .int .i64 (aohC h m)]) ∧ w = w' := by
  cases h1 : inB h 0 23
  · have e1 : aohA h m = 0 := by simp [aohA, h1]
    have e2 : aohC h m = 2 := by simp [aohC, h1]
    rw [e1, e2]; clear e1 e2
    go_enter Try.func10, Try.ntmps10
    go_wp2_with (go_at_call 18; (with_reducible refine (sIn _ _ _ _).mono ?_); rintro e w' ⟨rfl, rfl⟩)
    go_ret2
    exact ⟨rfl, rfl⟩
  · cases h2 : inB m 0 59
    · have e1 : aohA h m = 0 := by simp [aohA, h1, h2]
      have e2 : aohC h m = 2 := by simp [aohC, h1, h2]
      rw [e1, e2]; clear e1 e2
      go_enter Try.func10, Try.ntmps10
      go_wp2_with (go_at_call 18; (with_reducible refine (sIn _ _ _ _).mono ?_); rintro e w' ⟨rfl, rfl⟩)
      go_ret2
      exact ⟨rfl, rfl⟩
    · have e1 : aohA h m = h * 15000 + m * 15000 / 60 := by simp [aohA, h1, h2]; omega
      have e2 : aohC h m = 0 := by simp [aohC, h1, h2]
      rw [e1, e2]; clear e1 e2
      have b1 := inB_t h1
      have b2 := inB_t h2
      go_enter Try.func10, Try.ntmps10
      go_wp2_with (go_at_call 18; (with_reducible refine (sIn _ _ _ _).mono ?_); rintro e w' ⟨rfl, rfl⟩)
      go_ret2
      exact ⟨rfl, rfl⟩
theorem walk_FnExactAngleOfHours (a0 a1 : Int) (w : World) (w0 : (Lit.int .i64 a0).wf = true) (w1 : (Lit.int .i64 a1).wf = true) :
    Calls Try.prog 5 #[.int .i64 a0, .int .i64 a1] w fun e w' => e = .returned (.bool true) ∧ Below w.heap.size w w' := by
  go_enter Try.func5, Try.ntmps5
  go_wp2_with (first | (go_at_call 10; (with_reducible refine (sAngleOfHours _ _ _).mono ?_); rintro e w' ⟨rfl, rfl⟩) | (go_at_call 11; (with_reducible refine (iAngleOfHours _ _ _).mono ?_); rintro e w' ⟨rfl, rfl⟩))
  go_ret
  exact ⟨rfl, Below.refl _ _⟩
/-- An angle as hours and minutes, with the error's code. -/
def hofA (a : Int) : Int := if inB a 0 359999 then a / 15000 else 0
def hofB (a : Int) : Int := if inB a 0 359999 then a % 15000 * 60 / 15000 else 0
def hofC (a : Int) : Int := if inB a 0 359999 then 0 else 2
theorem iHoursOf (a : Int) (w : World) :
    Calls Try.prog 13 #[.int .i64 a] w fun e w' => e = .returned (.tuple #[.int .i64 (hofA a), .int .i64 (hofB a), .int .i64 (hofC a)]) ∧ w = w' := by
  cases h1 : inB a 0 359999
  · have e1 : hofA a = 0 := by simp [hofA, h1]
    have e2 : hofB a = 0 := by simp [hofB, h1]
    have e3 : hofC a = 2 := by simp [hofC, h1]
    rw [e1, e2, e3]; clear e1 e2 e3
    go_enter Try.func13, Try.ntmps13
    go_wp2_with (go_at_call 19; (with_reducible refine (iWithin _ _ _ _).mono ?_); rintro e w' ⟨rfl, rfl⟩)
    go_ret3
    exact ⟨rfl, rfl⟩
  · have e1 : hofA a = a / 15000 := by simp [hofA, h1]
    have e2 : hofB a = a % 15000 * 60 / 15000 := by simp [hofB, h1]
    have e3 : hofC a = 0 := by simp [hofC, h1]
    rw [e1, e2, e3]; clear e1 e2 e3
    have b1 := inB_t h1
    go_enter Try.func13, Try.ntmps13
    go_wp2_with (go_at_call 19; (with_reducible refine (iWithin _ _ _ _).mono ?_); rintro e w' ⟨rfl, rfl⟩)
    go_ret3
    exact ⟨rfl, rfl⟩
theorem sHoursOf (a : Int) (w : World) :
    Calls Try.prog 12 #[.int .i64 a] w fun e w' => e = .returned (.tuple #[.int .i64 (hofA a), .int .i64 (hofB a), .int .i64 (hofC a)]) ∧ w = w' := by
  cases h1 : inB a 0 359999
  · have e1 : hofA a = 0 := by simp [hofA, h1]
    have e2 : hofB a = 0 := by simp [hofB, h1]
    have e3 : hofC a = 2 := by simp [hofC, h1]
    rw [e1, e2, e3]; clear e1 e2 e3
    go_enter Try.func12, Try.ntmps12
    go_wp2_with (go_at_call 18; (with_reducible refine (sIn _ _ _ _).mono ?_); rintro e w' ⟨rfl, rfl⟩)
    go_ret3
    exact ⟨rfl, rfl⟩
  · have e1 : hofA a = a / 15000 := by simp [hofA, h1]
    have e2 : hofB a = a % 15000 * 60 / 15000 := by simp [hofB, h1]
    have e3 : hofC a = 0 := by simp [hofC, h1]
    rw [e1, e2, e3]; clear e1 e2 e3
    have b1 := inB_t h1
    go_enter Try.func12, Try.ntmps12
    go_wp2_with (go_at_call 18; (with_reducible refine (sIn _ _ _ _).mono ?_); rintro e w' ⟨rfl, rfl⟩)
    go_ret3
    exact ⟨rfl, rfl⟩
theorem walk_FnExactHoursOf (a0 : Int) (w : World) (w0 : (Lit.int .i64 a0).wf = true) :
    Calls Try.prog 6 #[.int .i64 a0] w fun e w' => e = .returned (.bool true) ∧ Below w.heap.size w w' := by
  go_enter Try.func6, Try.ntmps6
  go_wp2_with (first | (go_at_call 12; (with_reducible refine (sHoursOf _ _).mono ?_); rintro e w' ⟨rfl, rfl⟩) | (go_at_call 13; (with_reducible refine (iHoursOf _ _).mono ?_); rintro e w' ⟨rfl, rfl⟩))
  go_ret
  exact ⟨rfl, Below.refl _ _⟩
theorem walk_FnExactConstants (w : World) :
    Calls Try.prog 3 #[] w fun e w' => e = .returned (.bool true) ∧ Below w.heap.size w w' := by
  go_enter Try.func3, Try.ntmps3
  go_wp2
  go_ret
  exact ⟨rfl, Below.refl _ _⟩
end Go.Proofs.Ytjnaedbikdpkeaa
