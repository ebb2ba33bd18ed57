/-
  Contracts of the functions on angles: what each computes, over whatever arguments.
-/
import Derived.Test.YtiipncjlaalogaaRows
import Derived.WalkKit
import Derived.WalkLawsBesides
import Derived.Test.YtiipncjlaalogaaNum
namespace Go.Proofs.Ytiipncjlaalogaa
set_option linter.unusedVariables false
set_option linter.unusedSimpArgs false
open Go.RowKit

theorem iNormalAngle (a : Int) (w : World) (h1 : -9223372036854775808 ≤ a) (h2 : a ≤ 9223372036854775807) :
    Calls Try.prog 57 #[.int .i64 a] w fun e w' => e = .returned (.int .i64 (a % 360000)) ∧ w = w' := by
  by_cases h : 0 ≤ a
  · go_enter Try.func57, Try.ntmps57
    go_wp2
    go_ret
    exact ⟨rfl, rfl⟩
  · have hm := tmod_neg 360000 (show a < 0 by omega)
    by_cases h0 : (-a) % 360000 = 0
    · go_enter Try.func57, Try.ntmps57
      go_wp2
      go_ret
      exact ⟨ret_i (by omega), rfl⟩
    · go_enter Try.func57, Try.ntmps57
      go_wp2
      go_ret
      exact ⟨ret_i (by omega), rfl⟩
theorem sNormal (a : Int) (w : World) (h1 : -9223372036854775808 ≤ a) (h2 : a ≤ 9223372036854775807) :
    Calls Try.prog 55 #[.int .i64 a] w fun e w' => e = .returned (.int .i64 (a % 360000)) ∧ w = w' := by
  by_cases h : 0 ≤ a
  · go_enter Try.func55, Try.ntmps55
    go_wp2
    go_ret
    exact ⟨ret_i (by omega), rfl⟩
  · have hm := tmod_neg 360000 (show a < 0 by omega)
    go_enter Try.func55, Try.ntmps55
    go_wp2
    go_ret
    exact ⟨ret_i (by omega), rfl⟩
/-- Hours as an angle, with the error's code. -/
def aohA (h m : Int) : Int := if inB h 0 23 && inB m 0 59 then h * 15000 + m * 250 else 0
def aohC (h m : Int) : Int := if inB h 0 23 && inB m 0 59 then 0 else 2
/-- An angle as hours and minutes, with the error's code. -/
def hofA (a : Int) : Int := if inB a 0 359999 then a / 15000 else 0
def hofB (a : Int) : Int := if inB a 0 359999 then a % 15000 * 60 / 15000 else 0
def hofC (a : Int) : Int := if inB a 0 359999 then 0 else 2
/-- The angle from one angle to another one; its size. -/
def sgn (a b : Int) : Int := if (b - a) % 360000 > 180000 then (b - a) % 360000 - 360000 else (b - a) % 360000
def btw (a b : Int) : Int := min ((b - a) % 360000) (360000 - (b - a) % 360000)
theorem sgn_bd (a b : Int) : -180000 < sgn a b ∧ sgn a b ≤ 180000 := by unfold sgn; split <;> omega
theorem iSigned (a b : Int) (w : World) (h1 : -9223372036854775808 ≤ a) (h2 : a ≤ 9223372036854775807) (h3 : -9223372036854775808 ≤ b) (h4 : b ≤ 9223372036854775807) :
    Calls Try.prog 56 #[.int .i64 a, .int .i64 b] w fun e w' => e = .returned (.int .i64 (sgn a b)) ∧ w = w' := by
  unfold sgn
  by_cases c : (b - a) % 360000 > 180000
  · rw [if_pos c]
    go_enter Try.func56, Try.ntmps56
    go_wp2_with (go_at_call 57; (with_reducible refine (iNormalAngle _ _ (by omega) (by omega)).mono ?_); rintro e w' ⟨rfl, rfl⟩)
    go_ret
    exact ⟨rfl, rfl⟩
  · rw [if_neg c]
    go_enter Try.func56, Try.ntmps56
    go_wp2_with (go_at_call 57; (with_reducible refine (iNormalAngle _ _ (by omega) (by omega)).mono ?_); rintro e w' ⟨rfl, rfl⟩)
    go_ret
    exact ⟨rfl, rfl⟩
theorem sSigned (a b : Int) (w : World) (h1 : -9223372036854775808 ≤ a) (h2 : a ≤ 9223372036854775807) (h3 : -9223372036854775808 ≤ b) (h4 : b ≤ 9223372036854775807) :
    Calls Try.prog 54 #[.int .i64 a, .int .i64 b] w fun e w' => e = .returned (.int .i64 (sgn a b)) ∧ w = w' := by
  unfold sgn
  by_cases c : (b - a) % 360000 > 180000
  · rw [if_pos c]
    go_enter Try.func54, Try.ntmps54
    go_wp2_with (go_at_call 55; (with_reducible refine (sNormal _ _ (by omega) (by omega)).mono ?_); rintro e w' ⟨rfl, rfl⟩)
    go_ret
    exact ⟨rfl, rfl⟩
  · rw [if_neg c]
    go_enter Try.func54, Try.ntmps54
    go_wp2_with (go_at_call 55; (with_reducible refine (sNormal _ _ (by omega) (by omega)).mono ?_); rintro e w' ⟨rfl, rfl⟩)
    go_ret
    exact ⟨rfl, rfl⟩
/-- A turn towards an angle, with the error's code. -/
def turA (a b s : Int) : Int := if s < 0 then 0 else (a + max (-s) (min s (sgn a b))) % 360000
def turC (s : Int) : Int := if s < 0 then 2 else 0
theorem iTurn (a b s : Int) (w : World) (h1 : -9223372036854775808 ≤ a) (h2 : a ≤ 9223372036854775807) (h3 : -9223372036854775808 ≤ b) (h4 : b ≤ 9223372036854775807) (h5 : -9223372036854775808 ≤ s) (h6 : s ≤ 9223372036854775807) :
    Calls Try.prog 24 #[.int .i64 a, .int .i64 b, .int .i64 s] w fun e w' => e = .returned (.tuple #[.int .i64 (turA a b s), .int .i64 (turC s)]) ∧ w = w' := by
  unfold turA turC
  by_cases c : s < 0
  · rw [if_pos c, if_pos c]
    go_enter Try.func24, Try.ntmps24
    go_wp2
    go_ret2
    exact ⟨rfl, rfl⟩
  · rw [if_neg c, if_neg c]
    have hb := sgn_bd a b
    go_enter Try.func24, Try.ntmps24
    go_wp2_with (first | (go_at_call 56; (with_reducible refine (iSigned _ _ _ (by omega) (by omega) (by omega) (by omega)).mono ?_); rintro e w' ⟨rfl, rfl⟩) | (go_at_call 57; (with_reducible refine (iNormalAngle _ _ (by omega) (by omega)).mono ?_); rintro e w' ⟨rfl, rfl⟩))
    all_goals (go_ret2; exact ⟨ret_ii (by omega) rfl, rfl⟩)
theorem sTurn (a b s : Int) (w : World) (h1 : -9223372036854775808 ≤ a) (h2 : a ≤ 9223372036854775807) (h3 : -9223372036854775808 ≤ b) (h4 : b ≤ 9223372036854775807) (h5 : -9223372036854775808 ≤ s) (h6 : s ≤ 9223372036854775807) :
    Calls Try.prog 23 #[.int .i64 a, .int .i64 b, .int .i64 s] w fun e w' => e = .returned (.tuple #[.int .i64 (turA a b s), .int .i64 (turC s)]) ∧ w = w' := by
  unfold turA turC
  by_cases c : s < 0
  · rw [if_pos c, if_pos c]
    go_enter Try.func23, Try.ntmps23
    go_wp2
    go_ret2
    exact ⟨rfl, rfl⟩
  · rw [if_neg c, if_neg c]
    have hb := sgn_bd a b
    go_enter Try.func23, Try.ntmps23
    go_wp2_with (first | (go_at_call 54; (with_reducible refine (sSigned _ _ _ (by omega) (by omega) (by omega) (by omega)).mono ?_); rintro e w' ⟨rfl, rfl⟩) | (go_at_call 55; (with_reducible refine (sNormal _ _ (by omega) (by omega)).mono ?_); rintro e w' ⟨rfl, rfl⟩) | (go_at_call 53; (with_reducible refine (sMin _ _ _).mono ?_); rintro e w' ⟨rfl, rfl⟩) | (go_at_call 52; (with_reducible refine (sMax _ _ _).mono ?_); rintro e w' ⟨rfl, rfl⟩))
    all_goals (go_ret2; exact ⟨ret_ii (by omega) rfl, rfl⟩)
theorem walk_FnExactTurnTowards (a0 a1 a2 : Int) (w : World) (w0 : (Lit.int .i64 a0).wf = true) (w1 : (Lit.int .i64 a1).wf = true) (w2 : (Lit.int .i64 a2).wf = true) :
    Calls Try.prog 7 #[.int .i64 a0, .int .i64 a1, .int .i64 a2] w fun e w' => e = .returned (.bool true) ∧ Below w.heap.size w w' := by
  obtain ⟨h1, h2⟩ := bd64 w0
  obtain ⟨h3, h4⟩ := bd64 w1
  obtain ⟨h5, h6⟩ := bd64 w2
  clear w0 w1 w2
  go_enter Try.func7, Try.ntmps7
  go_wp2_with (first | (go_at_call 23; (with_reducible refine (sTurn _ _ _ _ (by omega) (by omega) (by omega) (by omega) (by omega) (by omega)).mono ?_); rintro e w' ⟨rfl, rfl⟩) | (go_at_call 24; (with_reducible refine (iTurn _ _ _ _ (by omega) (by omega) (by omega) (by omega) (by omega) (by omega)).mono ?_); rintro e w' ⟨rfl, rfl⟩))
  go_ret
  exact ⟨rfl, Below.refl _ _⟩
end Go.Proofs.Ytiipncjlaalogaa
