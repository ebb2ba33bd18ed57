/-
  Contracts of the functions on quotients and lines.
-/
import Derived.Test.YtmkmhljiajgibaaDoorRows
import Derived.WalkKit
import Derived.BigQuiet
import Derived.Deep.QuietTactic
import Derived.WalkLawsBesides
import Derived.Handy
import Derived.Lib.Hide
import Derived.Test.YtmkmhljiajgibaaDoorBase
import Derived.Test.YtmkmhljiajgibaaDoorMnum
namespace Go.Proofs.YtmkmhljiajgibaaDoor
set_option linter.unusedVariables false
set_option linter.unusedSimpArgs false
open Go.RowKit

theorem quiet_same {P : Program} {f : FuncId} {args : Array Value} {w : World} {n : Nat} {v : Value}
    (h : Calls P f args (w.drewN n) fun e w' => e = .returned v ∧ w.drewN n = w') : Calls P f args (w.drewN n) fun e w'' => e = .returned v ∧ ∃ m, w'' = w.drewN m :=
  h.mono fun _ _ ⟨he, hm⟩ => ⟨he, n, hm.symm⟩

theorem iAbs (x : Int) (w : World) (h1 : -9223372036854775807 ≤ x) (h2 : x ≤ 9223372036854775807) :
    Calls Tryd.prog 53 #[.int .i64 x] w fun e w' => e = .returned (.int .i64 (ab x)) ∧ w = w' := by
  unfold ab
  by_cases h : x < 0
  · rw [if_pos h]
    go_enter Tryd.func53, Tryd.ntmps53
    go_wp2
    go_ret
    exact ⟨rfl, rfl⟩
  · rw [if_neg h]
    go_enter Tryd.func53, Tryd.ntmps53
    go_wp2
    go_ret
    exact ⟨rfl, rfl⟩
theorem iNearest (a b : Int) (w : World) (h0 : b ≠ 0) (h1 : -4611686018427387903 ≤ a) (h2 : a ≤ 4611686018427387903) (h3 : -4611686018427387903 ≤ b) (h4 : b ≤ 4611686018427387903) :
    Calls Tryd.prog 39 #[.int .i64 a, .int .i64 b] w fun e w' => e = .returned (.int .i64 (divR a b)) ∧ ∃ n, w' = w.drewN n := by
  have hd := divR_core (a := a) h0
  have g1 := tdiv_bd h0 h1 h2
  have g2 := tmod_bd (a := a) h0 h3 h4
  have k1 := ab_bd g2.1 g2.2
  have k2 := ab_bd h3 h4
  have k3 := ab_nonneg (a.tmod b)
  have k4 := ab_nonneg b
  have hq0 : IntKind.i64.wrap (a.tdiv b) = a.tdiv b := IntWalk.i64_in _ (by omega)
  obtain ⟨q, eq⟩ : ∃ q, q = a.tdiv b := ⟨_, rfl⟩
  obtain ⟨r, er⟩ : ∃ r, r = a.tmod b := ⟨_, rfl⟩
  rw [← eq, ← er] at hd
  rw [← eq] at g1
  rw [← er] at g2 k1 k3
  have hq : IntKind.i64.wrap (a.tdiv b) = q := hq0.trans eq.symm
  have hr : a.tmod b = r := er.symm
  clear hq0 eq er
  have D := Lib.hid hd; clear hd
  obtain ⟨g2a, g2b⟩ := g2
  obtain ⟨g1a, g1b⟩ := g1
  have hb0 : (b == 0) = false := by simp [h0]
  by_cases c1 : ab r < ab b - ab r
  · have e : divR a b = q := by rw [D.out, if_pos c1]
    rw [e]; clear e
    go_enter Tryd.func39, Tryd.ntmps39
    go_wp2
    go_quiet ((first | (go_at_call 53; exact quiet_same (iAbs _ _ (by omega) (by omega)))))
    go_wp2_with (go_at_call 53; (with_reducible refine (iAbs _ _ (by omega) (by omega)).mono ?_); rintro e w' ⟨rfl, rfl⟩)
    go_ret
    exact ⟨rfl, _, rfl⟩
  · by_cases c2 : a < 0 <;> by_cases c3 : b < 0
    · have e : divR a b = q + 1 := by rw [D.out, if_neg c1]; simp [c2, c3]
      have hc : (decide (a < 0) == decide (b < 0)) = true := by simp [c2, c3]
      rw [e]; clear e
      go_enter Tryd.func39, Tryd.ntmps39
      go_wp2
      go_quiet ((first | (go_at_call 53; exact quiet_same (iAbs _ _ (by omega) (by omega)))))
      go_wp2_with (go_at_call 53; (with_reducible refine (iAbs _ _ (by omega) (by omega)).mono ?_); rintro e w' ⟨rfl, rfl⟩)
      go_ret
      exact ⟨rfl, _, rfl⟩
    · have e : divR a b = q - 1 := by rw [D.out, if_neg c1]; simp [c2, c3]
      have hc : (decide (a < 0) == decide (b < 0)) = false := by simp [c2, c3]
      rw [e]; clear e
      go_enter Tryd.func39, Tryd.ntmps39
      go_wp2
      go_quiet ((first | (go_at_call 53; exact quiet_same (iAbs _ _ (by omega) (by omega)))))
      go_wp2_with (go_at_call 53; (with_reducible refine (iAbs _ _ (by omega) (by omega)).mono ?_); rintro e w' ⟨rfl, rfl⟩)
      go_ret
      exact ⟨rfl, _, rfl⟩
    · have e : divR a b = q - 1 := by rw [D.out, if_neg c1]; simp [c2, c3]
      have hc : (decide (a < 0) == decide (b < 0)) = false := by simp [c2, c3]
      rw [e]; clear e
      go_enter Tryd.func39, Tryd.ntmps39
      go_wp2
      go_quiet ((first | (go_at_call 53; exact quiet_same (iAbs _ _ (by omega) (by omega)))))
      go_wp2_with (go_at_call 53; (with_reducible refine (iAbs _ _ (by omega) (by omega)).mono ?_); rintro e w' ⟨rfl, rfl⟩)
      go_ret
      exact ⟨rfl, _, rfl⟩
    · have e : divR a b = q + 1 := by rw [D.out, if_neg c1]; simp [c2, c3]
      have hc : (decide (a < 0) == decide (b < 0)) = true := by simp [c2, c3]
      rw [e]; clear e
      go_enter Tryd.func39, Tryd.ntmps39
      go_wp2
      go_quiet ((first | (go_at_call 53; exact quiet_same (iAbs _ _ (by omega) (by omega)))))
      go_wp2_with (go_at_call 53; (with_reducible refine (iAbs _ _ (by omega) (by omega)).mono ?_); rintro e w' ⟨rfl, rfl⟩)
      go_ret
      exact ⟨rfl, _, rfl⟩
theorem iBlend (x0 y0 x1 y1 x : Int) (w : World) (h1 : -4000000 ≤ x0) (h2 : x0 ≤ 4000000) (h3 : -4000000 ≤ y0) (h4 : y0 ≤ 4000000) (h5 : -4000000 ≤ x1) (h6 : x1 ≤ 4000000) (h7 : -4000000 ≤ y1) (h8 : y1 ≤ 4000000) :
    Calls Tryd.prog 40 #[.int .i64 x0, .int .i64 y0, .int .i64 x1, .int .i64 y1, .int .i64 x] w fun e w' => e = .returned (.int .i64 (blendF x0 y0 x1 y1 x)) ∧ ∃ n, w' = w.drewN n := by
  unfold blendF
  by_cases c1 : x ≤ x0
  · rw [if_pos (.inl c1)]
    go_enter Tryd.func40, Tryd.ntmps40
    go_wp2
    go_ret
    exact ⟨rfl, 0, rfl⟩
  · by_cases c2 : x1 ≤ x0
    · rw [if_pos (.inr c2)]
      go_enter Tryd.func40, Tryd.ntmps40
      go_wp2
      go_ret
      exact ⟨rfl, 0, rfl⟩
    · rw [if_neg (by omega)]
      by_cases c3 : x1 ≤ x
      · rw [if_pos c3]
        go_enter Tryd.func40, Tryd.ntmps40
        go_wp2
        go_ret
        exact ⟨rfl, 0, rfl⟩
      · rw [if_neg c3]
        have hp := mul_bd (a := y1 - y0) (b := x - x0) (c := 8000000) (d := 8000000) (by omega) (by omega) (by omega) (by omega) (by omega)
        obtain ⟨p1, p2⟩ := hp
        have hq := divR_bd (a := (y1 - y0) * (x - x0)) (b := x1 - x0) (c := 64000000000000) (by omega) (by omega) (by omega)
        obtain ⟨q1, q2⟩ := hq
        go_enter Tryd.func40, Tryd.ntmps40
        go_wp2_with (go_at_call 39; (with_reducible refine (iNearest _ _ _ (by omega) (by omega) (by omega) (by omega) (by omega)).mono ?_); rintro e w' ⟨rfl, n, rfl⟩)
        go_ret
        exact ⟨rfl, _, rfl⟩
theorem iDivRound (a b : Int) (w : World) :
    Calls Tryd.prog 19 #[.int .i64 a, .int .i64 b] w fun e w' => e = .returned (.int .i64 (dvr a b)) ∧ ∃ n, w' = w.drewN n := by
  unfold dvr
  cases c1 : (b == 0)
  · cases c2 : inB a (-1000000000000) 1000000000000
    · go_enter Tryd.func19, Tryd.ntmps19
      go_wp2_with (go_at_call 29; (with_reducible refine (iWithin _ _ _ _).mono ?_); rintro e w' ⟨rfl, rfl⟩)
      go_ret
      exact ⟨rfl, 0, rfl⟩
    · cases c3 : inB b (-1000000000000) 1000000000000
      · go_enter Tryd.func19, Tryd.ntmps19
        go_wp2_with (go_at_call 29; (with_reducible refine (iWithin _ _ _ _).mono ?_); rintro e w' ⟨rfl, rfl⟩)
        go_ret
        exact ⟨rfl, 0, rfl⟩
      · have b1 := inB_t c2
        have b2 := inB_t c3
        have h0 : b ≠ 0 := by simpa using c1
        go_enter Tryd.func19, Tryd.ntmps19
        go_wp2_with (first | (go_at_call 29; (with_reducible refine (iWithin _ _ _ _).mono ?_); rintro e w' ⟨rfl, rfl⟩) | (go_at_call 39; (with_reducible refine (iNearest _ _ _ (by omega) (by omega) (by omega) (by omega) (by omega)).mono ?_); rintro e w' ⟨rfl, n, rfl⟩))
        go_ret
        exact ⟨rfl, _, rfl⟩
  · go_enter Tryd.func19, Tryd.ntmps19
    go_wp2_with (go_at_call 29; (with_reducible refine (iWithin _ _ _ _).mono ?_); rintro e w' ⟨rfl, rfl⟩)
    go_ret
    exact ⟨rfl, 0, rfl⟩
theorem iBlendC (x0 y0 x1 y1 x : Int) (w : World) :
    Calls Tryd.prog 21 #[.int .i64 x0, .int .i64 y0, .int .i64 x1, .int .i64 y1, .int .i64 x] w fun e w' => e = .returned (.int .i64 (blendC x0 y0 x1 y1 x)) ∧ ∃ n, w' = w.drewN n := by
  have i0 : ∀ w, (Instr.index 69 (.agg #[.int .i64 x0, .int .i64 y0, .int .i64 x1, .int .i64 y1]) (.int .i64 0)).run Tryd.prog w = .ok (.int .i64 x0) w := fun _ => by kernel_rfl
  have i1 : ∀ w, (Instr.index 69 (.agg #[.int .i64 x0, .int .i64 y0, .int .i64 x1, .int .i64 y1]) (.int .i64 1)).run Tryd.prog w = .ok (.int .i64 y0) w := fun _ => by kernel_rfl
  have i2 : ∀ w, (Instr.index 69 (.agg #[.int .i64 x0, .int .i64 y0, .int .i64 x1, .int .i64 y1]) (.int .i64 2)).run Tryd.prog w = .ok (.int .i64 x1) w := fun _ => by kernel_rfl
  have i3 : ∀ w, (Instr.index 69 (.agg #[.int .i64 x0, .int .i64 y0, .int .i64 x1, .int .i64 y1]) (.int .i64 3)).run Tryd.prog w = .ok (.int .i64 y1) w := fun _ => by kernel_rfl
  unfold blendC blB
  cases c1 : inB x0 (-1000000) 1000000
  · go_enter Tryd.func21, Tryd.ntmps21
    go_wp2
    refine wp_loop_rounds 1 ?_
    rw [rounds_succ]
    go_wp2_with (go_at_call 29; (with_reducible refine (iWithin _ _ _ _).mono ?_); rintro e w' ⟨rfl, rfl⟩)
    go_ret
    exact ⟨rfl, 0, rfl⟩
  cases c2 : inB y0 (-1000000) 1000000
  · go_enter Tryd.func21, Tryd.ntmps21
    go_wp2
    refine wp_loop_rounds 2 ?_
    rw [rounds_succ]
    go_wp2_with (go_at_call 29; (with_reducible refine (iWithin _ _ _ _).mono ?_); rintro e w' ⟨rfl, rfl⟩)
    rw [rounds_succ]
    go_wp2_with (go_at_call 29; (with_reducible refine (iWithin _ _ _ _).mono ?_); rintro e w' ⟨rfl, rfl⟩)
    go_ret
    exact ⟨rfl, 0, rfl⟩
  cases c3 : inB x1 (-1000000) 1000000
  · go_enter Tryd.func21, Tryd.ntmps21
    go_wp2
    refine wp_loop_rounds 3 ?_
    rw [rounds_succ]
    go_wp2_with (go_at_call 29; (with_reducible refine (iWithin _ _ _ _).mono ?_); rintro e w' ⟨rfl, rfl⟩)
    rw [rounds_succ]
    go_wp2_with (go_at_call 29; (with_reducible refine (iWithin _ _ _ _).mono ?_); rintro e w' ⟨rfl, rfl⟩)
    rw [rounds_succ]
    go_wp2_with (go_at_call 29; (with_reducible refine (iWithin _ _ _ _).mono ?_); rintro e w' ⟨rfl, rfl⟩)
    go_ret
    exact ⟨rfl, 0, rfl⟩
  cases c4 : inB y1 (-1000000) 1000000
  · go_enter Tryd.func21, Tryd.ntmps21
    go_wp2
    refine wp_loop_rounds 4 ?_
    rw [rounds_succ]
    go_wp2_with (go_at_call 29; (with_reducible refine (iWithin _ _ _ _).mono ?_); rintro e w' ⟨rfl, rfl⟩)
    rw [rounds_succ]
    go_wp2_with (go_at_call 29; (with_reducible refine (iWithin _ _ _ _).mono ?_); rintro e w' ⟨rfl, rfl⟩)
    rw [rounds_succ]
    go_wp2_with (go_at_call 29; (with_reducible refine (iWithin _ _ _ _).mono ?_); rintro e w' ⟨rfl, rfl⟩)
    rw [rounds_succ]
    go_wp2_with (go_at_call 29; (with_reducible refine (iWithin _ _ _ _).mono ?_); rintro e w' ⟨rfl, rfl⟩)
    go_ret
    exact ⟨rfl, 0, rfl⟩
  · have b1 := inB_t c1
    have b2 := inB_t c2
    have b3 := inB_t c3
    have b4 := inB_t c4
    go_enter Tryd.func21, Tryd.ntmps21
    go_wp2
    refine wp_loop_rounds 5 ?_
    rw [rounds_succ]
    go_wp2_with (go_at_call 29; (with_reducible refine (iWithin _ _ _ _).mono ?_); rintro e w' ⟨rfl, rfl⟩)
    rw [rounds_succ]
    go_wp2_with (go_at_call 29; (with_reducible refine (iWithin _ _ _ _).mono ?_); rintro e w' ⟨rfl, rfl⟩)
    rw [rounds_succ]
    go_wp2_with (go_at_call 29; (with_reducible refine (iWithin _ _ _ _).mono ?_); rintro e w' ⟨rfl, rfl⟩)
    rw [rounds_succ]
    go_wp2_with (go_at_call 29; (with_reducible refine (iWithin _ _ _ _).mono ?_); rintro e w' ⟨rfl, rfl⟩)
    rw [rounds_succ]
    go_wp2_with (first | (go_at_call 29; (with_reducible refine (iWithin _ _ _ _).mono ?_); rintro e w' ⟨rfl, rfl⟩) | (go_at_call 40; (with_reducible refine (iBlend _ _ _ _ _ _ (by omega) (by omega) (by omega) (by omega) (by omega) (by omega) (by omega) (by omega)).mono ?_); rintro e w' ⟨rfl, n, rfl⟩))
    go_ret
    exact ⟨rfl, _, rfl⟩
end Go.Proofs.YtmkmhljiajgibaaDoor
