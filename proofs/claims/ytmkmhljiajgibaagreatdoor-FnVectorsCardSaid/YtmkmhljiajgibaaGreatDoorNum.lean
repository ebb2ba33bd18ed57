/-
  Contracts of the functions on quotients and lines.
-/
import Derived.Test.YtmkmhljiajgibaaGreatDoorRows
import Derived.WalkKit
import Derived.BigQuiet
import Derived.Deep.QuietTactic
import Derived.WalkLawsBesides
import Derived.Handy
import Derived.Lib.Hide
import Derived.Test.YtmkmhljiajgibaaGreatDoorBase
import Derived.Test.YtmkmhljiajgibaaGreatDoorMnum
namespace Go.Proofs.YtmkmhljiajgibaaGreatDoor
set_option linter.unusedVariables false
set_option linter.unusedSimpArgs false
open Go.RowKit

theorem quiet_same {P : Program} {f : FuncId} {args : Array Value} {w : World} {n : Nat} {v : Value}
    (h : Calls P f args (w.drewN n) fun e w' => e = .returned v ∧ w.drewN n = w') : Calls P f args (w.drewN n) fun e w'' => e = .returned v ∧ ∃ m, w'' = w.drewN m :=
  h.mono fun _ _ ⟨he, hm⟩ => ⟨he, n, hm.symm⟩

theorem iAbs (x : Int) (w : World) (h1 : -9223372036854775807 ≤ x) (h2 : x ≤ 9223372036854775807) :
    Calls Tryz.prog 38 #[.int .i64 x] w fun e w' => e = .returned (.int .i64 (ab x)) ∧ w = w' := by
  unfold ab
  by_cases h : x < 0
  · rw [if_pos h]
    go_enter Tryz.func38, Tryz.ntmps38
    go_wp2
    go_ret
    exact ⟨rfl, rfl⟩
  · rw [if_neg h]
    go_enter Tryz.func38, Tryz.ntmps38
    go_wp2
    go_ret
    exact ⟨rfl, rfl⟩
theorem lAbs (x : Int) (w : World) (h1 : -9223372036854775807 ≤ x) (h2 : x ≤ 9223372036854775807) :
    Calls Tryz.prog 10 #[.int .i64 x] w fun e w' => e = .returned (.int .i64 (ab x)) ∧ w = w' := by
  unfold ab
  by_cases h : x < 0
  · rw [if_pos h]
    go_enter Tryz.func10, Tryz.ntmps10
    go_wp2
    go_ret
    exact ⟨rfl, rfl⟩
  · rw [if_neg h]
    go_enter Tryz.func10, Tryz.ntmps10
    go_wp2
    go_ret
    exact ⟨rfl, rfl⟩
theorem iNearest (a b : Int) (w : World) (h0 : b ≠ 0) (h1 : -4611686018427387903 ≤ a) (h2 : a ≤ 4611686018427387903) (h3 : -4611686018427387903 ≤ b) (h4 : b ≤ 4611686018427387903) :
    Calls Tryz.prog 35 #[.int .i64 a, .int .i64 b] w fun e w' => e = .returned (.int .i64 (divR a b)) ∧ ∃ n, w' = w.drewN n := by
  have hd := divR_core (a := a) h0
  have g1 := tdiv_bd h0 h1 h2
  have g2 := tmod_bd (a := a) h0 h3 h4
  have k1 := ab_bd g2.1 g2.2
  have k2 := ab_bd h3 h4
  have k3 := ab_nonneg (a.tmod b)
  have k4 := ab_nonneg b
  have hq0 : IntKind.i64.wrap (a.tdiv b) = a.tdiv b := IntWalk.i64_in _ (by omega)
  obtain ⟨q, eq⟩ : ∃ q, q = a.tdiv b := ⟨_, rfl⟩
  obtain ⟨r, er⟩ : ∃ r, r = a.tmod b := ⟨_, rfl⟩
  rw [← eq, ← er] at hd
  rw [← eq] at g1
  rw [← er] at g2 k1 k3
  have hq : IntKind.i64.wrap (a.tdiv b) = q := hq0.trans eq.symm
  have hr : a.tmod b = r := er.symm
  clear hq0 eq er
  have D := Lib.hid hd; clear hd
  obtain ⟨g2a, g2b⟩ := g2
  obtain ⟨g1a, g1b⟩ := g1
  have hb0 : (b == 0) = false := by simp [h0]
  by_cases c1 : ab r < ab b - ab r
  · have e : divR a b = q := by rw [D.out, if_pos c1]
    rw [e]; clear e
    go_enter Tryz.func35, Tryz.ntmps35
    go_wp2
    go_quiet ((first | (go_at_call 38; exact quiet_same (iAbs _ _ (by omega) (by omega)))))
    go_wp2_with (go_at_call 38; (with_reducible refine (iAbs _ _ (by omega) (by omega)).mono ?_); rintro e w' ⟨rfl, rfl⟩)
    go_ret
    exact ⟨rfl, _, rfl⟩
  · by_cases c2 : a < 0 <;> by_cases c3 : b < 0
    · have e : divR a b = q + 1 := by rw [D.out, if_neg c1]; simp [c2, c3]
      have hc : (decide (a < 0) == decide (b < 0)) = true := by simp [c2, c3]
      rw [e]; clear e
      go_enter Tryz.func35, Tryz.ntmps35
      go_wp2
      go_quiet ((first | (go_at_call 38; exact quiet_same (iAbs _ _ (by omega) (by omega)))))
      go_wp2_with (go_at_call 38; (with_reducible refine (iAbs _ _ (by omega) (by omega)).mono ?_); rintro e w' ⟨rfl, rfl⟩)
      go_ret
      exact ⟨rfl, _, rfl⟩
    · have e : divR a b = q - 1 := by rw [D.out, if_neg c1]; simp [c2, c3]
      have hc : (decide (a < 0) == decide (b < 0)) = false := by simp [c2, c3]
      rw [e]; clear e
      go_enter Tryz.func35, Tryz.ntmps35
      go_wp2
      go_quiet ((first | (go_at_call 38; exact quiet_same (iAbs _ _ (by omega) (by omega)))))
      go_wp2_with (go_at_call 38; (with_reducible refine (iAbs _ _ (by omega) (by omega)).mono ?_); rintro e w' ⟨rfl, rfl⟩)
      go_ret
      exact ⟨rfl, _, rfl⟩
    · have e : divR a b = q - 1 := by rw [D.out, if_neg c1]; simp [c2, c3]
      have hc : (decide (a < 0) == decide (b < 0)) = false := by simp [c2, c3]
      rw [e]; clear e
      go_enter Tryz.func35, Tryz.ntmps35
      go_wp2
      go_quiet ((first | (go_at_call 38; exact quiet_same (iAbs _ _ (by omega) (by omega)))))
      go_wp2_with (go_at_call 38; (with_reducible refine (iAbs _ _ (by omega) (by omega)).mono ?_); rintro e w' ⟨rfl, rfl⟩)
      go_ret
      exact ⟨rfl, _, rfl⟩
    · have e : divR a b = q + 1 := by rw [D.out, if_neg c1]; simp [c2, c3]
      have hc : (decide (a < 0) == decide (b < 0)) = true := by simp [c2, c3]
      rw [e]; clear e
      go_enter Tryz.func35, Tryz.ntmps35
      go_wp2
      go_quiet ((first | (go_at_call 38; exact quiet_same (iAbs _ _ (by omega) (by omega)))))
      go_wp2_with (go_at_call 38; (with_reducible refine (iAbs _ _ (by omega) (by omega)).mono ?_); rintro e w' ⟨rfl, rfl⟩)
      go_ret
      exact ⟨rfl, _, rfl⟩
theorem sDiv (a b : Int) (w : World) (h0 : b ≠ 0) (h1 : -2305843009213693951 ≤ a) (h2 : a ≤ 2305843009213693951) (h3 : -2305843009213693951 ≤ b) (h4 : b ≤ 2305843009213693951) :
    Calls Tryz.prog 72 #[.int .i64 a, .int .i64 b] w fun e w' => e = .returned (.int .i64 (divR a b)) ∧ w = w' := by
  unfold divR qr
  by_cases c3 : b < 0 <;> by_cases c2 : a < 0
  · rw [if_pos c2, if_pos c3]
    go_enter Tryz.func72, Tryz.ntmps72
    go_wp2
    go_ret
    exact ⟨ret_i (by congr 1 <;> omega), rfl⟩
  · rw [if_neg c2, if_pos c3]
    by_cases c4 : a ≤ 0
    · have e : -((2 * a + -b) / (2 * -b)) = (2 * -a + -b) / (2 * -b) := by
        rw [Int.ediv_eq_zero_of_lt (by omega) (by omega), Int.ediv_eq_zero_of_lt (by omega) (by omega)]; rfl
      rw [e]; clear e
      go_enter Tryz.func72, Tryz.ntmps72
      go_wp2
      go_ret
      exact ⟨rfl, rfl⟩
    · have k1 : 0 ≤ (-b - 2 * -a) / (2 * -b) := Int.ediv_nonneg (by omega) (by omega)
      have k2 : (-b - 2 * -a) / (2 * -b) ≤ 6917529027641081853 := Int.le_trans (Int.ediv_le_self _ (by omega)) (by omega)
      go_enter Tryz.func72, Tryz.ntmps72
      go_wp2
      go_ret
      exact ⟨ret_i (by congr 2 <;> omega), rfl⟩
  · rw [if_pos c2, if_neg c3]
    have k1 : 0 ≤ (b - 2 * a) / (2 * b) := Int.ediv_nonneg (by omega) (by omega)
    have k2 : (b - 2 * a) / (2 * b) ≤ 6917529027641081853 := Int.le_trans (Int.ediv_le_self _ (by omega)) (by omega)
    go_enter Tryz.func72, Tryz.ntmps72
    go_wp2
    go_ret
    exact ⟨ret_i (by congr 2 <;> omega), rfl⟩
  · rw [if_neg c2, if_neg c3]
    go_enter Tryz.func72, Tryz.ntmps72
    go_wp2
    go_ret
    exact ⟨ret_i (by congr 1 <;> omega), rfl⟩
theorem iBlend (x0 y0 x1 y1 x : Int) (w : World) (h1 : -4000000 ≤ x0) (h2 : x0 ≤ 4000000) (h3 : -4000000 ≤ y0) (h4 : y0 ≤ 4000000) (h5 : -4000000 ≤ x1) (h6 : x1 ≤ 4000000) (h7 : -4000000 ≤ y1) (h8 : y1 ≤ 4000000) :
    Calls Tryz.prog 47 #[.int .i64 x0, .int .i64 y0, .int .i64 x1, .int .i64 y1, .int .i64 x] w fun e w' => e = .returned (.int .i64 (blendF x0 y0 x1 y1 x)) ∧ ∃ n, w' = w.drewN n := by
  unfold blendF
  by_cases c1 : x ≤ x0
  · rw [if_pos (.inl c1)]
    go_enter Tryz.func47, Tryz.ntmps47
    go_wp2
    go_ret
    exact ⟨rfl, 0, rfl⟩
  · by_cases c2 : x1 ≤ x0
    · rw [if_pos (.inr c2)]
      go_enter Tryz.func47, Tryz.ntmps47
      go_wp2
      go_ret
      exact ⟨rfl, 0, rfl⟩
    · rw [if_neg (by omega)]
      by_cases c3 : x1 ≤ x
      · rw [if_pos c3]
        go_enter Tryz.func47, Tryz.ntmps47
        go_wp2
        go_ret
        exact ⟨rfl, 0, rfl⟩
      · rw [if_neg c3]
        have hp := mul_bd (a := y1 - y0) (b := x - x0) (c := 8000000) (d := 8000000) (by omega) (by omega) (by omega) (by omega) (by omega)
        obtain ⟨p1, p2⟩ := hp
        have hq := divR_bd (a := (y1 - y0) * (x - x0)) (b := x1 - x0) (c := 64000000000000) (by omega) (by omega) (by omega)
        obtain ⟨q1, q2⟩ := hq
        go_enter Tryz.func47, Tryz.ntmps47
        go_wp2_with (go_at_call 35; (with_reducible refine (iNearest _ _ _ (by omega) (by omega) (by omega) (by omega) (by omega)).mono ?_); rintro e w' ⟨rfl, n, rfl⟩)
        go_ret
        exact ⟨rfl, _, rfl⟩
end Go.Proofs.YtmkmhljiajgibaaGreatDoor
