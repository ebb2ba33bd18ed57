/-
  Contracts of the functions on angles: what each computes, over whatever arguments.
-/
import Derived.Test.YtmkmhljiajgibaaGreatDoorRows
import Derived.WalkKit
import Derived.WalkLawsBesides
import Derived.Test.YtmkmhljiajgibaaGreatDoorNum
namespace Go.Proofs.YtmkmhljiajgibaaGreatDoor
set_option linter.unusedVariables false
set_option linter.unusedSimpArgs false
open Go.RowKit

theorem iNormalAngle (a : Int) (w : World) (h1 : -9223372036854775808 ≤ a) (h2 : a ≤ 9223372036854775807) :
    Calls Tryz.prog 25 #[.int .i64 a] w fun e w' => e = .returned (.int .i64 (a % 360000)) ∧ w = w' := by
  by_cases h : 0 ≤ a
  · go_enter Tryz.func25, Tryz.ntmps25
    go_wp2
    go_ret
    exact ⟨rfl, rfl⟩
  · have hm := tmod_neg 360000 (show a < 0 by omega)
    by_cases h0 : (-a) % 360000 = 0
    · go_enter Tryz.func25, Tryz.ntmps25
      go_wp2
      go_ret
      exact ⟨ret_i (by omega), rfl⟩
    · go_enter Tryz.func25, Tryz.ntmps25
      go_wp2
      go_ret
      exact ⟨ret_i (by omega), rfl⟩
theorem sNormal (a : Int) (w : World) (h1 : -9223372036854775808 ≤ a) (h2 : a ≤ 9223372036854775807) :
    Calls Tryz.prog 90 #[.int .i64 a] w fun e w' => e = .returned (.int .i64 (a % 360000)) ∧ w = w' := by
  by_cases h : 0 ≤ a
  · go_enter Tryz.func90, Tryz.ntmps90
    go_wp2
    go_ret
    exact ⟨ret_i (by omega), rfl⟩
  · have hm := tmod_neg 360000 (show a < 0 by omega)
    go_enter Tryz.func90, Tryz.ntmps90
    go_wp2
    go_ret
    exact ⟨ret_i (by omega), rfl⟩
/-- Hours as an angle, with the error's code. -/
def aohA (h m : Int) : Int := if inB h 0 23 && inB m 0 59 then h * 15000 + m * 250 else 0
def aohC (h m : Int) : Int := if inB h 0 23 && inB m 0 59 then 0 else 2
/-- An angle as hours and minutes, with the error's code. -/
def hofA (a : Int) : Int := if inB a 0 359999 then a / 15000 else 0
def hofB (a : Int) : Int := if inB a 0 359999 then a % 15000 * 60 / 15000 else 0
def hofC (a : Int) : Int := if inB a 0 359999 then 0 else 2
/-- The angle from one angle to another one; its size. -/
def sgn (a b : Int) : Int := if (b - a) % 360000 > 180000 then (b - a) % 360000 - 360000 else (b - a) % 360000
def btw (a b : Int) : Int := min ((b - a) % 360000) (360000 - (b - a) % 360000)
theorem sgn_bd (a b : Int) : -180000 < sgn a b ∧ sgn a b ≤ 180000 := by unfold sgn; split <;> omega
theorem iBetween (a b : Int) (w : World) (h1 : -9223372036854775808 ≤ a) (h2 : a ≤ 9223372036854775807) (h3 : -9223372036854775808 ≤ b) (h4 : b ≤ 9223372036854775807) :
    Calls Tryz.prog 9 #[.int .i64 a, .int .i64 b] w fun e w' => e = .returned (.int .i64 (btw a b)) ∧ w = w' := by
  go_enter Tryz.func9, Tryz.ntmps9
  go_wp2_with (go_at_call 25; (with_reducible refine (iNormalAngle _ _ (by omega) (by omega)).mono ?_); rintro e w' ⟨rfl, rfl⟩)
  all_goals (go_ret; exact ⟨ret_i (by unfold btw; omega), rfl⟩)
/-- A turn towards an angle, with the error's code. -/
def turA (a b s : Int) : Int := if s < 0 then 0 else (a + max (-s) (min s (sgn a b))) % 360000
def turC (s : Int) : Int := if s < 0 then 2 else 0
end Go.Proofs.YtmkmhljiajgibaaGreatDoor
