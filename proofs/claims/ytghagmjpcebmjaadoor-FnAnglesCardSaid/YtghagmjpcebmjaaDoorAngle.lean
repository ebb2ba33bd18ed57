/-
  Contracts of the functions on angles: what each computes, over whatever arguments.
-/
import Derived.Test.YtghagmjpcebmjaaDoorRows
import Derived.WalkKit
import Derived.WalkLawsBesides
import Derived.Test.YtghagmjpcebmjaaDoorNum
namespace Go.Proofs.YtghagmjpcebmjaaDoor
set_option linter.unusedVariables false
set_option linter.unusedSimpArgs false
open Go.RowKit

theorem iNormalAngle (a : Int) (w : World) (h1 : -9223372036854775808 ≤ a) (h2 : a ≤ 9223372036854775807) :
    Calls Tryd.prog 52 #[.int .i64 a] w fun e w' => e = .returned (.int .i64 (a % 360000)) ∧ w = w' := by
  by_cases h : 0 ≤ a
  · go_enter Tryd.func52, Tryd.ntmps52
    go_wp2
    go_ret
    exact ⟨rfl, rfl⟩
  · have hm := tmod_neg 360000 (show a < 0 by omega)
    by_cases h0 : (-a) % 360000 = 0
    · go_enter Tryd.func52, Tryd.ntmps52
      go_wp2
      go_ret
      exact ⟨ret_i (by omega), rfl⟩
    · go_enter Tryd.func52, Tryd.ntmps52
      go_wp2
      go_ret
      exact ⟨ret_i (by omega), rfl⟩
/-- Hours as an angle, with the error's code. -/
def aohA (h m : Int) : Int := if inB h 0 23 && inB m 0 59 then h * 15000 + m * 250 else 0
def aohC (h m : Int) : Int := if inB h 0 23 && inB m 0 59 then 0 else 2
/-- An angle as hours and minutes, with the error's code. -/
def hofA (a : Int) : Int := if inB a 0 359999 then a / 15000 else 0
def hofB (a : Int) : Int := if inB a 0 359999 then a % 15000 * 60 / 15000 else 0
def hofC (a : Int) : Int := if inB a 0 359999 then 0 else 2
/-- The angle from one angle to another one; its size. -/
def sgn (a b : Int) : Int := if (b - a) % 360000 > 180000 then (b - a) % 360000 - 360000 else (b - a) % 360000
def btw (a b : Int) : Int := min ((b - a) % 360000) (360000 - (b - a) % 360000)
theorem sgn_bd (a b : Int) : -180000 < sgn a b ∧ sgn a b ≤ 180000 := by unfold sgn; split <;> omega
theorem iSigned (a b : Int) (w : World) (h1 : -9223372036854775808 ≤ a) (h2 : a ≤ 9223372036854775807) (h3 : -9223372036854775808 ≤ b) (h4 : b ≤ 9223372036854775807) :
    Calls Tryd.prog 51 #[.int .i64 a, .int .i64 b] w fun e w' => e = .returned (.int .i64 (sgn a b)) ∧ w = w' := by
  unfold sgn
  by_cases c : (b - a) % 360000 > 180000
  · rw [if_pos c]
    go_enter Tryd.func51, Tryd.ntmps51
    go_wp2_with (go_at_call 52; (with_reducible refine (iNormalAngle _ _ (by omega) (by omega)).mono ?_); rintro e w' ⟨rfl, rfl⟩)
    go_ret
    exact ⟨rfl, rfl⟩
  · rw [if_neg c]
    go_enter Tryd.func51, Tryd.ntmps51
    go_wp2_with (go_at_call 52; (with_reducible refine (iNormalAngle _ _ (by omega) (by omega)).mono ?_); rintro e w' ⟨rfl, rfl⟩)
    go_ret
    exact ⟨rfl, rfl⟩
theorem iBetween (a b : Int) (w : World) (h1 : -9223372036854775808 ≤ a) (h2 : a ≤ 9223372036854775807) (h3 : -9223372036854775808 ≤ b) (h4 : b ≤ 9223372036854775807) :
    Calls Tryd.prog 50 #[.int .i64 a, .int .i64 b] w fun e w' => e = .returned (.int .i64 (btw a b)) ∧ w = w' := by
  go_enter Tryd.func50, Tryd.ntmps50
  go_wp2_with (go_at_call 52; (with_reducible refine (iNormalAngle _ _ (by omega) (by omega)).mono ?_); rintro e w' ⟨rfl, rfl⟩)
  all_goals (go_ret; exact ⟨ret_i (by unfold btw; omega), rfl⟩)
/-- A turn towards an angle, with the error's code. -/
def turA (a b s : Int) : Int := if s < 0 then 0 else (a + max (-s) (min s (sgn a b))) % 360000
def turC (s : Int) : Int := if s < 0 then 2 else 0
theorem iTurn (a b s : Int) (w : World) (h1 : -9223372036854775808 ≤ a) (h2 : a ≤ 9223372036854775807) (h3 : -9223372036854775808 ≤ b) (h4 : b ≤ 9223372036854775807) (h5 : -9223372036854775808 ≤ s) (h6 : s ≤ 9223372036854775807) :
    Calls Tryd.prog 55 #[.int .i64 a, .int .i64 b, .int .i64 s] w fun e w' => e = .returned (.tuple #[.int .i64 (turA a b s), .int .i64 (turC s)]) ∧ w = w' := by
  unfold turA turC
  by_cases c : s < 0
  · rw [if_pos c, if_pos c]
    go_enter Tryd.func55, Tryd.ntmps55
    go_wp2
    go_ret2
    exact ⟨rfl, rfl⟩
  · rw [if_neg c, if_neg c]
    have hb := sgn_bd a b
    go_enter Tryd.func55, Tryd.ntmps55
    go_wp2_with (first | (go_at_call 51; (with_reducible refine (iSigned _ _ _ (by omega) (by omega) (by omega) (by omega)).mono ?_); rintro e w' ⟨rfl, rfl⟩) | (go_at_call 52; (with_reducible refine (iNormalAngle _ _ (by omega) (by omega)).mono ?_); rintro e w' ⟨rfl, rfl⟩))
    all_goals (go_ret2; exact ⟨ret_ii (by omega) rfl, rfl⟩)
end Go.Proofs.YtghagmjpcebmjaaDoor
