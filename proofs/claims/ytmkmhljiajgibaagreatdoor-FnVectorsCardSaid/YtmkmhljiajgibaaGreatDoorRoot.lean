/-
  Contracts of the square root.
-/
import Derived.Test.YtmkmhljiajgibaaGreatDoorRows
import Derived.WalkKit
import Derived.WalkLawsBesides
import Derived.Lib.Hide
import Derived.Laws.Externs
import Derived.Test.YtmkmhljiajgibaaGreatDoorBase
import Derived.Test.YtmkmhljiajgibaaGreatDoorMroot
namespace Go.Proofs.YtmkmhljiajgibaaGreatDoor
set_option linter.unusedVariables false
set_option linter.unusedSimpArgs false
open Go.RowKit

theorem sq_bd {k : Int} (h0 : 0 ≤ k) (h1 : k ≤ 3037000500) : 0 ≤ k * k ∧ k * k ≤ 9223372037000250000 :=
  ⟨Int.mul_nonneg h0 h0, sq_le h0 h1⟩
theorem sq_bd2 {k : Int} (h0 : 0 ≤ k) (h1 : k ≤ 3037000499) : 0 ≤ k * k ∧ k * k ≤ 9223372030926249001 :=
  ⟨Int.mul_nonneg h0 h0, sq_le h0 h1⟩
theorem sqrtRun (b r : Nat) (h : Ieee.double.sqrt b = some r) (w : World) : (callFunc 48 #[.float .f64 b]).run Tryz.prog w = .ok (.value (.float .f64 r)) w := by
  rw [run_callFunc_extern (e := Extern.MathSqrt.sqrt) Tryz.func48 (by kernel_rfl) (by kernel_rfl) (by kernel_rfl) (by kernel_rfl)]
  have h2 : FloatKind.f64.format.sqrt b = some r := h
  have e : Extern.MathSqrt.sqrt #[.float .f64 b] = (match FloatKind.f64.format.sqrt b with
    | some r => pure (.float .f64 r)
    | none => do pure (.float .f64 (← choose (.nanBits .f64 b b))) : Sem Value) := rfl
  rw [e, h2]
  rfl
theorem iMathSqrt (b r : Nat) (w : World) (h : Ieee.double.sqrt b = some r) :
    Calls Tryz.prog 39 #[.float .f64 b] w fun e w' => e = .returned (.float .f64 r) ∧ w = w' := by
  have hd := sqrtRun b r h
  clear h
  go_enter Tryz.func39, Tryz.ntmps39
  go_wp2
  go_ret
  exact ⟨rfl, rfl⟩
set_option maxRecDepth 100000 in
theorem iRootOf (n : Int) (w : World) (h1 : -9223372036854775808 ≤ n) (h2 : n ≤ 9223372036854775807) :
    Calls Tryz.prog 23 #[.int .i64 n] w fun e w' => e = .returned (.int .i64 (rootF n)) ∧ w = w' := by
  by_cases h : n ≤ 0
  · have e : rootF n = 0 := by
      by_cases g : n < 0
      · exact rootF_neg g
      · exact rootF_eq ⟨by omega, by omega, by omega⟩
    rw [e]; clear e
    go_enter Tryz.func23, Tryz.ntmps23
    go_wp2
    go_ret
    exact ⟨rfl, rfl⟩
  · obtain ⟨r, k, hr, hk, hk0⟩ := sqrt_ok (show 1 ≤ n by omega) h2
    have hc := fun w => run_convert_float_int (P := Tryz.prog) (w := w) 59 2 .f64 .i64 r k (by rw [Tryz.underlying59]; rfl) Tryz.underlying2 hk
    have K : Hid (∀ q : Int, IsRoot n q → rootF n = q) := fun q h => rootF_eq h
    generalize rootF n = R at *
    have key : ∀ q0 : Int, 0 ≤ q0 → q0 ≤ 3037000499 → True := fun _ _ _ => trivial
    clear key
    go_enter Tryz.func23, Tryz.ntmps23
    go_wp2_with (go_at_call 39; (with_reducible refine (iMathSqrt _ _ _ hr).mono ?_); rintro e w' ⟨rfl, rfl⟩)
    all_goals
      go_loop [3] (fun t => ∃ q : Int, 0 ≤ q ∧ q ≤ 3037000499 ∧ t = .int .i64 q) (fun t => (intOf t).toNat)
      case atStart => exact ⟨_, by omega, by omega, rfl⟩
      case round =>
        obtain ⟨q, hq0, hq1, rfl⟩ := hrel
        have b := sq_bd2 hq0 hq1
        by_cases c : n < q * q
        · have hq2 : 1 ≤ q := by
            by_cases g : q = 0
            · rw [g] at c; omega
            · omega
          go_wp2
          go_round
          case rel => exact ⟨q - 1, by omega, by omega, rfl⟩
          case measure => simp [intOf]; omega
        · go_wp2
          go_loop [3] (fun t => ∃ q : Int, 0 ≤ q ∧ q ≤ 3037000499 ∧ q * q ≤ n ∧ t = .int .i64 q) (fun t => (3037000499 - intOf t).toNat)
          case atStart => exact ⟨q, by omega, by omega, by omega, rfl⟩
          case round =>
            obtain ⟨p, hp0, hp1, hp2, rfl⟩ := hrel
            have b1 := sq_bd (k := p + 1) (by omega) (by omega)
            by_cases c1 : p < 3037000499
            · have b3 := sq_bd2 (k := p + 1) (by omega) (by omega)
              by_cases c2 : (p + 1) * (p + 1) ≤ n
              · go_wp2
                go_round
                case rel => exact ⟨p + 1, by omega, by omega, c2, rfl⟩
                case measure => simp [intOf]; omega
              · go_wp2
                go_ret
                exact ⟨ret_i (K.out p ⟨hp0, hp2, by omega⟩).symm, rfl⟩
            · obtain rfl : p = 3037000499 := by omega
              go_wp2
              go_ret
              exact ⟨ret_i (K.out 3037000499 ⟨by omega, hp2, by omega⟩).symm, rfl⟩
end Go.Proofs.YtmkmhljiajgibaaGreatDoor
