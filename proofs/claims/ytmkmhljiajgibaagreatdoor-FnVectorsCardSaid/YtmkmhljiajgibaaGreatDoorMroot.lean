/-
  Square roots, rounded down; and that the floating root of a positive number is a number that an int64 holds, not negative. No program in sight.
-/
import Derived.Test.YtmkmhljiajgibaaGreatDoorMa
import Derived.Laws.FloatArith
import Derived.Laws.Cover2
namespace Go.Proofs.YtmkmhljiajgibaaGreatDoor
set_option linter.unusedVariables false
set_option linter.unusedSimpArgs false
/-- The square root, rounded down. -/
def IsRoot (n r : Int) : Prop := 0 ≤ r ∧ r * r ≤ n ∧ n < (r + 1) * (r + 1)
theorem sq_le {a b : Int} (h0 : 0 ≤ a) (h : a ≤ b) : a * a ≤ b * b := Int.mul_le_mul h h h0 (by omega)
theorem IsRoot.unique {n r s : Int} (h : IsRoot n r) (k : IsRoot n s) : r = s := by
  rcases Int.lt_trichotomy r s with c | c | c
  · have := sq_le (show 0 ≤ r + 1 by have := h.1; omega) (show r + 1 ≤ s by omega); have := h.2.2; have := k.2.1; omega
  · exact c
  · have := sq_le (show 0 ≤ s + 1 by have := k.1; omega) (show s + 1 ≤ r by omega); have := k.2.2; have := h.2.1; omega
noncomputable def rootF (n : Int) : Int := if n < 0 then 0 else Classical.epsilon fun r => IsRoot n r
theorem rootF_eq {n r : Int} (h : IsRoot n r) : rootF n = r := by
  have h0 : 0 ≤ r * r := Int.mul_nonneg h.1 h.1
  unfold rootF
  rw [if_neg (by have := h.2.1; omega)]
  exact (Classical.epsilon_spec (p := fun r => IsRoot n r) ⟨r, h⟩).unique h
theorem rootF_neg {n : Int} (h : n < 0) : rootF n = 0 := by unfold rootF; rw [if_pos h]
theorem root_step {n : Nat} : ∃ r : Int, IsRoot n r := by
  induction n with
  | zero => exact ⟨0, by decide, by decide, by decide⟩
  | succ n ih =>
    obtain ⟨r, h1, h2, h3⟩ := ih
    by_cases g : (r + 1) * (r + 1) ≤ (n : Int) + 1
    · refine ⟨r + 1, by omega, by simpa using g, ?_⟩
      have e : (r + 1 + 1) * (r + 1 + 1) = (r + 1) * (r + 1) + 2 * r + 3 := by
        rw [show r + 1 + 1 = (r + 1) + 1 from rfl, Int.add_mul (r + 1) 1, Int.mul_add (r + 1) (r + 1) 1]; omega
      rw [e]; simp only [Int.natCast_add, Int.natCast_one]; omega
    · exact ⟨r, h1, by simp only [Int.natCast_add, Int.natCast_one]; omega, by simp only [Int.natCast_add, Int.natCast_one]; omega⟩
theorem rootF_spec {n : Int} (h : 0 ≤ n) : IsRoot n (rootF n) := by
  obtain ⟨m, rfl⟩ := Int.eq_ofNat_of_zero_le h
  obtain ⟨r, hr⟩ := root_step (n := m)
  rw [rootF_eq hr]; exact hr
theorem rootF_bd (n : Int) (h : n ≤ 9223372036854775807) : 0 ≤ rootF n ∧ rootF n ≤ 3037000499 := by
  by_cases g : n < 0
  · rw [rootF_neg g]; omega
  · have hs := rootF_spec (show 0 ≤ n by omega)
    refine ⟨hs.1, ?_⟩
    by_cases c : rootF n ≤ 3037000499
    · exact c
    · have := sq_le (show (0 : Int) ≤ 3037000500 by omega) (show 3037000500 ≤ rootF n by omega)
      have := hs.2.1
      omega

/-! ### The floating root -/
open Ieee
theorem cut_le (neg : Bool) (n drop : Nat) : Toward.even.cut neg n drop ≤ n / 2 ^ (min drop (n.log2 + 2)) + 1 := by
  unfold Toward.cut
  simp only [Nat.one_shiftLeft]
  have : ∀ b : Bool, b.toNat ≤ 1 := by intro b; cases b <;> simp
  exact Nat.add_le_add_left (this _) _
theorem kept_le {neg : Bool} {mag : Nat} {s d : Nat} (hs : s = 52 - mag.log2) (hd : d = mag.log2 - 52) : Toward.even.cut neg (mag <<< s) d ≤ 2 ^ 53 := by
  have hlt : mag < 2 ^ (mag.log2 + 1) := Nat.lt_log2_self
  have hc := cut_le neg (mag <<< s) d
  by_cases h : mag.log2 ≤ 52
  · have hd0 : d = 0 := by omega
    subst hd0
    have e : mag <<< s < 2 ^ 53 := by
      rw [Nat.shiftLeft_eq]
      calc mag * 2 ^ s < 2 ^ (mag.log2 + 1) * 2 ^ s := Nat.mul_lt_mul_of_pos_right hlt (Nat.two_pow_pos _)
        _ = 2 ^ 53 := by rw [← Nat.pow_add]; congr 1; omega
    simp at hc
    omega
  · have hs0 : s = 0 := by omega
    subst hs0
    simp only [Nat.shiftLeft_zero] at hc ⊢
    have hm : min d (mag.log2 + 2) = d := by omega
    rw [hm] at hc
    have e : mag / 2 ^ d < 2 ^ 53 := by
      rw [Nat.div_lt_iff_lt_mul (Nat.two_pow_pos _), ← Nat.pow_add]
      have e2 : 53 + d = mag.log2 + 1 := by omega
      rw [e2]; exact hlt
    omega
/-- The rung of a number of middling size. -/
theorem nearest_rung {mag : Nat} {place T : Int} (hm : mag ≠ 0) (hT : T = place + mag.log2) (h1 : -1000 ≤ T) (h2 : T ≤ 63) :
    ∃ R : Nat, double.nearest false mag place = R ∧ 2 ^ 52 ≤ R ∧ (R : Int) ≤ (T + 1022) * 2 ^ 52 + 2 ^ 53 := by
  unfold Format.nearest
  rw [if_neg hm]
  have hl : double.leastPlace = -1074 := by decide
  have hf : (double.fractionBits : Int) = 52 := by decide
  have hlast : max (place + (mag.log2 : Int) - double.fractionBits) double.leastPlace = T - 52 := by rw [hl, hf]; omega
  simp only [hlast]
  have hk : Toward.even.cut false (mag <<< (place - (T - 52)).toNat) (T - 52 - place).toNat ≤ 2 ^ 53 := kept_le (by omega) (by omega)
  generalize Toward.even.cut false (mag <<< (place - (T - 52)).toNat) (T - 52 - place).toNat = kept at *
  have hb : double.binade = 2 ^ 52 := rfl
  have hi : double.infRung = 2047 * 2 ^ 52 := by decide
  rw [hl, hb, hi]
  obtain ⟨t, ht⟩ : ∃ t : Nat, (t : Int) = T + 1022 := ⟨(T + 1022).toNat, by omega⟩
  have e : (T - 52 - -1074).toNat = t := by omega
  rw [e]
  refine ⟨t * 2 ^ 52 + kept, ?_, ?_, ?_⟩
  · unfold Format.word
    simp only [Bool.false_eq_true, if_false]
    apply Nat.min_eq_left
    omega
  · omega
  · rw [← ht]; omega
theorem read_rung {R : Nat} (h1 : 2 ^ 52 ≤ R) (h2 : R < 2000 * 2 ^ 52) : double.read R = .number false (2 ^ 52 + R % 2 ^ 52) (-1074 + (R / 2 ^ 52 - 1 : Nat)) := by
  unfold Format.read
  have hb : double.binade = 2 ^ 52 := rfl
  have hi : double.infRung = 2047 * 2 ^ 52 := by decide
  have hs : double.signWeight = 2 ^ 63 := rfl
  have hl : double.leastPlace = -1074 := by decide
  have e1 : R / 2 ^ 63 % 2 = 0 := by omega
  have e2 : R % 2 ^ 63 = R := by omega
  simp only [hb, hi, hs, hl, e1, e2]
  rw [if_neg (by omega), if_pos (by omega)]
  simp
theorem rootFrom_le (n : Nat) : ∀ (todo root : Nat), root * root ≤ n → Datum.rootFrom n todo root * Datum.rootFrom n todo root ≤ n
  | 0, root, h => h
  | todo + 1, root, h => by
    unfold Datum.rootFrom
    dsimp only
    split
    · rename_i hc; exact rootFrom_le n todo _ hc
    · exact rootFrom_le n todo _ h
theorem sqrt_ok {n : Int} (h1 : 1 ≤ n) (h2 : n ≤ 9223372036854775807) : ∃ r k, double.sqrt (floatOfInt .f64 n) = some r ∧ floatToIntVal .f64 r .i64 = some k ∧ 0 ≤ k := by
  have e0 : floatOfInt .f64 n = double.nearest false n.natAbs 0 := by
    unfold floatOfInt FloatKind.nearest FloatKind.encode Format.write
    rw [show decide (n < 0) = false by simp; omega]
    rfl
  have hm0 : n.natAbs ≠ 0 := by omega
  have hL : n.natAbs.log2 ≤ 62 := by
    have : n.natAbs < 2 ^ 63 := by omega
    have := (Nat.log2_lt hm0).2 this
    omega
  obtain ⟨R, hR, hR1, hR2⟩ := nearest_rung hm0 (place := 0) (T := n.natAbs.log2) (by omega) (by omega) (by omega)
  have hR3 : R ≤ 1086 * 2 ^ 52 := by
    have : (R : Int) ≤ 1086 * 2 ^ 52 := by omega
    omega
  rw [e0, hR]
  unfold Format.sqrt
  rw [read_rung hR1 (by omega)]
  have hM : (2 ^ 52 + R % 2 ^ 52).log2 = 52 := by
    apply Nat.le_antisymm
    · exact Nat.lt_succ_iff.1 ((Nat.log2_lt (by omega)).2 (by omega))
    · exact (Nat.le_log2 (by omega)).2 (by omega)
  have hi1 : (-1074 : Int) + (R / 2 ^ 52 - 1 : Nat) ≤ 11 := by omega
  have hi2 : (-1074 : Int) ≤ -1074 + (R / 2 ^ 52 - 1 : Nat) := by omega
  have hMl : 2 ^ 52 + R % 2 ^ 52 < 2 ^ 53 := by omega
  have hMp : 2 ^ 52 + R % 2 ^ 52 ≠ 0 := by omega
  generalize hM0 : 2 ^ 52 + R % 2 ^ 52 = M at *
  generalize (-1074 : Int) + (R / 2 ^ 52 - 1 : Nat) = i at *
  unfold Datum.root
  have hdg : double.fractionBits + 2 = 54 := rfl
  simp only [if_neg hMp, Bool.false_eq_true, if_false, hM, hdg, -Nat.reduceMul, -Nat.reduceSub]
  generalize hmore : 2 * 54 - 52 + ((i - ((2 * 54 - 52 : Nat) : Int)) % 2).toNat = more
  have hmore2 : 56 ≤ more ∧ more ≤ 57 := by omega
  generalize hwhole : Datum.rootFrom (M <<< more) ((M <<< more).log2 / 2 + 1) 0 = whole
  have hw : whole * whole ≤ M <<< more := by rw [← hwhole]; exact rootFrom_le _ _ _ (by simp)
  have hw2 : whole < 2 ^ 55 := by
    rcases Nat.lt_or_ge whole (2 ^ 55) with g | g
    · exact g
    · have e1 : 2 ^ 55 * 2 ^ 55 ≤ whole * whole := Nat.mul_le_mul g g
      have e2 : M <<< more < 2 ^ 110 := by
        rw [Nat.shiftLeft_eq]
        calc M * 2 ^ more < 2 ^ 53 * 2 ^ more := Nat.mul_lt_mul_of_pos_right hMl (Nat.two_pow_pos _)
          _ ≤ 2 ^ 53 * 2 ^ 57 := Nat.mul_le_mul_left _ (Nat.pow_le_pow_right (by omega) hmore2.2)
          _ = 2 ^ 110 := by decide
      have e3 : (2 : Nat) ^ 55 * 2 ^ 55 = 2 ^ 110 := by decide
      omega
  have hbit : (whole * whole != M <<< more).toNat ≤ 1 := by cases (whole * whole != M <<< more) <;> simp
  generalize (whole * whole != M <<< more).toNat = bit at *
  simp only [Option.map_some, Format.write]
  have hp1 : (i - (more : Int)) / 2 - 1 ≤ -24 := by omega
  have hp2 : -567 ≤ (i - (more : Int)) / 2 - 1 := by omega
  generalize (i - (more : Int)) / 2 - 1 = pl at *
  have hmag : 2 * whole + bit < 2 ^ 56 := by omega
  generalize 2 * whole + bit = mag at *
  by_cases hz : mag = 0
  · subst hz
    exact ⟨_, 0, rfl, by unfold Format.nearest; rw [if_pos rfl]; decide, by omega⟩
  · have hlg : mag.log2 ≤ 55 := by have := (Nat.log2_lt hz).2 hmag; omega
    obtain ⟨R', hR', g1, g2⟩ := nearest_rung hz (place := pl) (T := pl + mag.log2) rfl (by omega) (by omega)
    have g3 : R' ≤ 1055 * 2 ^ 52 := by
      have : (R' : Int) ≤ 1055 * 2 ^ 52 := by omega
      omega
    rw [hR']
    refine ⟨R', ?_⟩
    unfold floatToIntVal FloatKind.decode
    rw [show FloatKind.f64.format = double from rfl, read_rung g1 (by omega)]
    have hj : (-1074 : Int) + (R' / 2 ^ 52 - 1 : Nat) ≤ 0 := by omega
    have hM' : 2 ^ 52 + R' % 2 ^ 52 < 2 ^ 53 := by omega
    generalize (-1074 : Int) + (R' / 2 ^ 52 - 1 : Nat) = j at *
    generalize 2 ^ 52 + R' % 2 ^ 52 = M' at *
    unfold Datum.toInt Datum.integral
    have hj0 : j.toNat = 0 := by omega
    simp only [hj0, Nat.shiftLeft_zero]
    have hX : Toward.zero.cut false M' (-j).toNat ≤ M' := by
      unfold Toward.cut
      simp only [Bool.toNat_false, Nat.add_zero]
      exact Nat.div_le_self _ _
    generalize Toward.zero.cut false M' (-j).toNat = X at *
    refine ⟨(X : Int), trivial, ?_, by omega⟩
    unfold signed
    simp only [Bool.false_eq_true, if_false, Nat.shiftLeft_zero]
    rw [if_pos ⟨by simp [IntKind.min, IntKind.signed, IntKind.bits] <;> omega, by simp [IntKind.max, IntKind.signed, IntKind.bits]; omega⟩]
end Go.Proofs.YtmkmhljiajgibaaGreatDoor
