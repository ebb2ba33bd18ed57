/-
  Contracts of the functions on angles: what each computes, over whatever arguments.
-/
import Derived.Test.YtnjfipdcgdnafaaRows
import Derived.WalkKit
import Derived.WalkLawsBesides
import Derived.Test.YtnjfipdcgdnafaaNum
namespace Go.Proofs.Ytnjfipdcgdnafaa
set_option linter.unusedVariables false
set_option linter.unusedSimpArgs false
open Go.RowKit

theorem iNormalAngle (a : Int) (w : World) (h1 : -9223372036854775808 ≤ a) (h2 : a ≤ 9223372036854775807) :
    Calls Try.prog 40 #[.int .i64 a] w fun e w' => e = .returned (.int .i64 (a % 360000)) ∧ w = w' := by
  by_cases h : 0 ≤ a
  · go_enter Try.func40, Try.ntmps40
    go_wp2
    go_ret
    exact ⟨rfl, rfl⟩
  · have hm := tmod_neg 360000 (show a < 0 by omega)
    by_cases h0 : (-a) % 360000 = 0
    · go_enter Try.func40, Try.ntmps40
      go_wp2
      go_ret
      exact ⟨ret_i (by omega), rfl⟩
    · go_enter Try.func40, Try.ntmps40
      go_wp2
      go_ret
      exact ⟨ret_i (by omega), rfl⟩
theorem sNormal (a : Int) (w : World) (h1 : -9223372036854775808 ≤ a) (h2 : a ≤ 9223372036854775807) :
    Calls Try.prog 66 #[.int .i64 a] w fun e w' => e = .returned (.int .i64 (a % 360000)) ∧ w = w' := by
  by_cases h : 0 ≤ a
  · go_enter Try.func66, Try.ntmps66
    go_wp2
    go_ret
    exact ⟨ret_i (by omega), rfl⟩
  · have hm := tmod_neg 360000 (show a < 0 by omega)
    go_enter Try.func66, Try.ntmps66
    go_wp2
    go_ret
    exact ⟨ret_i (by omega), rfl⟩
/-- Hours as an angle, with the error's code. -/
def aohA (h m : Int) : Int := if inB h 0 23 && inB m 0 59 then h * 15000 + m * 250 else 0
def aohC (h m : Int) : Int := if inB h 0 23 && inB m 0 59 then 0 else 2
/-- An angle as hours and minutes, with the error's code. -/
def hofA (a : Int) : Int := if inB a 0 359999 then a / 15000 else 0
def hofB (a : Int) : Int := if inB a 0 359999 then a % 15000 * 60 / 15000 else 0
def hofC (a : Int) : Int := if inB a 0 359999 then 0 else 2
/-- The angle from one angle to another one; its size. -/
def sgn (a b : Int) : Int := if (b - a) % 360000 > 180000 then (b - a) % 360000 - 360000 else (b - a) % 360000
def btw (a b : Int) : Int := min ((b - a) % 360000) (360000 - (b - a) % 360000)
theorem sgn_bd (a b : Int) : -180000 < sgn a b ∧ sgn a b ≤ 180000 := by unfold sgn; split <;> omega
theorem iSigned (a b : Int) (w : World) (h1 : -9223372036854775808 ≤ a) (h2 : a ≤ 9223372036854775807) (h3 : -9223372036854775808 ≤ b) (h4 : b ≤ 9223372036854775807) :
    Calls Try.prog 17 #[.int .i64 a, .int .i64 b] w fun e w' => e = .returned (.int .i64 (sgn a b)) ∧ w = w' := by
  unfold sgn
  by_cases c : (b - a) % 360000 > 180000
  · rw [if_pos c]
    go_enter Try.func17, Try.ntmps17
    go_wp2_with (go_at_call 40; (with_reducible refine (iNormalAngle _ _ (by omega) (by omega)).mono ?_); rintro e w' ⟨rfl, rfl⟩)
    go_ret
    exact ⟨rfl, rfl⟩
  · rw [if_neg c]
    go_enter Try.func17, Try.ntmps17
    go_wp2_with (go_at_call 40; (with_reducible refine (iNormalAngle _ _ (by omega) (by omega)).mono ?_); rintro e w' ⟨rfl, rfl⟩)
    go_ret
    exact ⟨rfl, rfl⟩
theorem sSigned (a b : Int) (w : World) (h1 : -9223372036854775808 ≤ a) (h2 : a ≤ 9223372036854775807) (h3 : -9223372036854775808 ≤ b) (h4 : b ≤ 9223372036854775807) :
    Calls Try.prog 39 #[.int .i64 a, .int .i64 b] w fun e w' => e = .returned (.int .i64 (sgn a b)) ∧ w = w' := by
  unfold sgn
  by_cases c : (b - a) % 360000 > 180000
  · rw [if_pos c]
    go_enter Try.func39, Try.ntmps39
    go_wp2_with (go_at_call 66; (with_reducible refine (sNormal _ _ (by omega) (by omega)).mono ?_); rintro e w' ⟨rfl, rfl⟩)
    go_ret
    exact ⟨rfl, rfl⟩
  · rw [if_neg c]
    go_enter Try.func39, Try.ntmps39
    go_wp2_with (go_at_call 66; (with_reducible refine (sNormal _ _ (by omega) (by omega)).mono ?_); rintro e w' ⟨rfl, rfl⟩)
    go_ret
    exact ⟨rfl, rfl⟩
theorem sSignedBetween (a b : Int) (w : World) (h1 : -9223372036854775808 ≤ a) (h2 : a ≤ 9223372036854775807) (h3 : -9223372036854775808 ≤ b) (h4 : b ≤ 9223372036854775807) :
    Calls Try.prog 16 #[.int .i64 a, .int .i64 b] w fun e w' => e = .returned (.int .i64 (sgn a b)) ∧ w = w' := by
  go_enter Try.func16, Try.ntmps16
  go_wp2_with (go_at_call 39; (with_reducible refine (sSigned _ _ _ (by omega) (by omega) (by omega) (by omega)).mono ?_); rintro e w' ⟨rfl, rfl⟩)
  go_ret
  exact ⟨rfl, rfl⟩
theorem walk_FnExactSignedBetween (a0 a1 : Int) (w : World) (w0 : (Lit.int .i64 a0).wf = true) (w1 : (Lit.int .i64 a1).wf = true) :
    Calls Try.prog 4 #[.int .i64 a0, .int .i64 a1] w fun e w' => e = .returned (.bool true) ∧ Below w.heap.size w w' := by
  obtain ⟨h1, h2⟩ := bd64 w0
  obtain ⟨h3, h4⟩ := bd64 w1
  clear w0 w1
  go_enter Try.func4, Try.ntmps4
  go_wp2_with (first | (go_at_call 16; (with_reducible refine (sSignedBetween _ _ _ (by omega) (by omega) (by omega) (by omega)).mono ?_); rintro e w' ⟨rfl, rfl⟩) | (go_at_call 17; (with_reducible refine (iSigned _ _ _ (by omega) (by omega) (by omega) (by omega)).mono ?_); rintro e w' ⟨rfl, rfl⟩))
  go_ret
  exact ⟨rfl, Below.refl _ _⟩
theorem iBetween (a b : Int) (w : World) (h1 : -9223372036854775808 ≤ a) (h2 : a ≤ 9223372036854775807) (h3 : -9223372036854775808 ≤ b) (h4 : b ≤ 9223372036854775807) :
    Calls Try.prog 19 #[.int .i64 a, .int .i64 b] w fun e w' => e = .returned (.int .i64 (btw a b)) ∧ w = w' := by
  go_enter Try.func19, Try.ntmps19
  go_wp2_with (go_at_call 40; (with_reducible refine (iNormalAngle _ _ (by omega) (by omega)).mono ?_); rintro e w' ⟨rfl, rfl⟩)
  all_goals (go_ret; exact ⟨ret_i (by unfold btw; omega), rfl⟩)
theorem sBetween (a b : Int) (w : World) (h1 : -9223372036854775808 ≤ a) (h2 : a ≤ 9223372036854775807) (h3 : -9223372036854775808 ≤ b) (h4 : b ≤ 9223372036854775807) :
    Calls Try.prog 41 #[.int .i64 a, .int .i64 b] w fun e w' => e = .returned (.int .i64 (btw a b)) ∧ w = w' := by
  go_enter Try.func41, Try.ntmps41
  go_wp2_with (first | (go_at_call 66; (with_reducible refine (sNormal _ _ (by omega) (by omega)).mono ?_); rintro e w' ⟨rfl, rfl⟩) | (go_at_call 67; (with_reducible refine (sMin _ _ _).mono ?_); rintro e w' ⟨rfl, rfl⟩))
  go_ret
  exact ⟨ret_i (by unfold btw; omega), rfl⟩
theorem sAngleBetween (a b : Int) (w : World) (h1 : -9223372036854775808 ≤ a) (h2 : a ≤ 9223372036854775807) (h3 : -9223372036854775808 ≤ b) (h4 : b ≤ 9223372036854775807) :
    Calls Try.prog 18 #[.int .i64 a, .int .i64 b] w fun e w' => e = .returned (.int .i64 (btw a b)) ∧ w = w' := by
  go_enter Try.func18, Try.ntmps18
  go_wp2_with (go_at_call 41; (with_reducible refine (sBetween _ _ _ (by omega) (by omega) (by omega) (by omega)).mono ?_); rintro e w' ⟨rfl, rfl⟩)
  go_ret
  exact ⟨rfl, rfl⟩
theorem walk_FnExactAngleBetween (a0 a1 : Int) (w : World) (w0 : (Lit.int .i64 a0).wf = true) (w1 : (Lit.int .i64 a1).wf = true) :
    Calls Try.prog 5 #[.int .i64 a0, .int .i64 a1] w fun e w' => e = .returned (.bool true) ∧ Below w.heap.size w w' := by
  obtain ⟨h1, h2⟩ := bd64 w0
  obtain ⟨h3, h4⟩ := bd64 w1
  clear w0 w1
  go_enter Try.func5, Try.ntmps5
  go_wp2_with (first | (go_at_call 18; (with_reducible refine (sAngleBetween _ _ _ (by omega) (by omega) (by omega) (by omega)).mono ?_); rintro e w' ⟨rfl, rfl⟩) | (go_at_call 19; (with_reducible refine (iBetween _ _ _ (by omega) (by omega) (by omega) (by omega)).mono ?_); rintro e w' ⟨rfl, rfl⟩))
  go_ret
  exact ⟨rfl, Below.refl _ _⟩
/-- A turn towards an angle, with the error's code. -/
def turA (a b s : Int) : Int := if s < 0 then 0 else (a + max (-s) (min s (sgn a b))) % 360000
def turC (s : Int) : Int := if s < 0 then 2 else 0
end Go.Proofs.Ytnjfipdcgdnafaa
