/-
  Nearest quotients and lines: plain integers, no program in sight.
-/
import Derived.Test.YtmkmhljiajgibaaGreatDoorMa
namespace Go.Proofs.YtmkmhljiajgibaaGreatDoor
set_option linter.unusedVariables false
set_option linter.unusedSimpArgs false
def ab (x : Int) : Int := if x < 0 then -x else x
theorem ab_nonneg (x : Int) : 0 ≤ ab x := by unfold ab; split <;> omega
theorem ab_bd {x b : Int} (h1 : -b ≤ x) (h2 : x ≤ b) : ab x ≤ b := by unfold ab; split <;> omega
/-- The nearest quotient of n, not negative, and d, positive. -/
def qr (n d : Int) : Int := (2 * n + d) / (2 * d)
/-- The nearest quotient, halves away from nought. -/
def divR (a b : Int) : Int := if a < 0 then (if b < 0 then qr (-a) (-b) else -(qr (-a) b)) else (if b < 0 then -(qr a (-b)) else qr a b)
theorem qr_eq {n d : Int} (hd : 0 < d) : qr n d = n / d + (if n % d < d - n % d then 0 else 1) := by
  unfold qr
  have h1 := Int.mul_ediv_add_emod n d
  have h2 := Int.emod_nonneg n (show d ≠ 0 by omega)
  have h3 := Int.emod_lt_of_pos n hd
  generalize n / d = q at *
  generalize n % d = r at *
  have e : 2 * n + d = (2 * r + d) + (2 * d) * q := by rw [Int.mul_assoc]; omega
  rw [e, Int.add_mul_ediv_left _ _ (show 2 * d ≠ 0 by omega)]
  split
  · rw [Int.ediv_eq_zero_of_lt (by omega) (by omega)]; omega
  · have e2 : 2 * r + d = (2 * r - d) + (2 * d) * 1 := by omega
    rw [e2, Int.add_mul_ediv_left _ _ (show 2 * d ≠ 0 by omega), Int.ediv_eq_zero_of_lt (by omega) (by omega)]
    omega
theorem qr_nonneg {n d : Int} (hn : 0 ≤ n) (hd : 0 < d) : 0 ≤ qr n d := by unfold qr; exact Int.ediv_nonneg (by omega) (by omega)
theorem qr_mono {n m d : Int} (h : n ≤ m) (hd : 0 < d) : qr n d ≤ qr m d := by unfold qr; exact Int.ediv_le_ediv (by omega) (by omega)
theorem qr_mul {k d : Int} (hd : 0 < d) : qr (k * d) d = k := by
  unfold qr
  have e : 2 * (k * d) + d = d + (2 * d) * k := by rw [Int.mul_assoc, Int.mul_comm k d]; omega
  rw [e, Int.add_mul_ediv_left _ _ (by omega), Int.ediv_eq_zero_of_lt (by omega) (by omega)]
  omega
theorem qr_le {n d : Int} (hn : 0 ≤ n) (hd : 0 < d) : qr n d ≤ n := by
  have h1 : qr n d ≤ qr (n * d) d := qr_mono (by have := Int.mul_le_mul_of_nonneg_left (show 1 ≤ d by omega) hn; omega) hd
  rw [qr_mul hd] at h1
  exact h1
theorem divR_bd {a b c : Int} (hb : b ≠ 0) (h1 : -c ≤ a) (h2 : a ≤ c) : -c ≤ divR a b ∧ divR a b ≤ c := by
  unfold divR
  split <;> split
  · have := qr_le (show 0 ≤ -a by omega) (show 0 < -b by omega); have := qr_nonneg (show 0 ≤ -a by omega) (show 0 < -b by omega); omega
  · have := qr_le (show 0 ≤ -a by omega) (show 0 < b by omega); have := qr_nonneg (show 0 ≤ -a by omega) (show 0 < b by omega); omega
  · have := qr_le (show 0 ≤ a by omega) (show 0 < -b by omega); have := qr_nonneg (show 0 ≤ a by omega) (show 0 < -b by omega); omega
  · have := qr_le (show 0 ≤ a by omega) (show 0 < b by omega); have := qr_nonneg (show 0 ≤ a by omega) (show 0 < b by omega); omega
theorem divR_nonneg {a b : Int} (ha : 0 ≤ a) (hb : 0 < b) : divR a b = qr a b := by unfold divR; rw [if_neg (by omega), if_neg (by omega)]
theorem divR_neg {a b : Int} (ha : a < 0) (hb : 0 < b) : divR a b = -(qr (-a) b) := by unfold divR; rw [if_pos ha, if_neg (by omega)]
/-- As the nearest quotient is reckoned from quotient and remainder. -/
theorem divR_core {a b : Int} (hb : b ≠ 0) : divR a b = if ab (a.tmod b) < ab b - ab (a.tmod b) then a.tdiv b else if decide (a < 0) = decide (b < 0) then a.tdiv b + 1 else a.tdiv b - 1 := by
  unfold divR
  by_cases ha : a < 0 <;> by_cases hb0 : b < 0 <;> simp only [ha, hb0, if_true, if_false]
  · have e1 : a.tdiv b = (-a) / (-b) := by rw [← Int.neg_tdiv_neg, Int.tdiv_eq_ediv_of_nonneg (by omega)]
    have e2 : a.tmod b = -((-a) % (-b)) := by rw [tmod_neg _ ha, Int.emod_neg]
    have h2 := Int.emod_nonneg (-a) (show -b ≠ 0 by omega)
    rw [qr_eq (show 0 < -b by omega), e1, e2]
    have a1 : ab (-((-a) % (-b))) = (-a) % (-b) := by unfold ab; split <;> omega
    have a2 : ab b = -b := by unfold ab; rw [if_pos hb0]
    rw [a1, a2]
    split <;> simp
  · have e1 : a.tdiv b = -((-a) / b) := tdiv_neg b ha
    have e2 : a.tmod b = -((-a) % b) := tmod_neg b ha
    have h2 := Int.emod_nonneg (-a) hb
    rw [qr_eq (show 0 < b by omega), e1, e2]
    have a1 : ab (-((-a) % b)) = (-a) % b := by unfold ab; split <;> omega
    have a2 : ab b = b := by unfold ab; rw [if_neg hb0]
    rw [a1, a2]
    split <;> simp <;> omega
  · have e1 : a.tdiv b = -(a / (-b)) := by rw [← Int.neg_neg b, Int.tdiv_neg, Int.tdiv_eq_ediv_of_nonneg (by omega), Int.neg_neg]
    have e2 : a.tmod b = a % (-b) := by rw [Int.tmod_eq_emod_of_nonneg (by omega), Int.emod_neg]
    have h2 := Int.emod_nonneg a (show -b ≠ 0 by omega)
    rw [qr_eq (show 0 < -b by omega), e1, e2]
    have a1 : ab (a % (-b)) = a % (-b) := by unfold ab; split <;> omega
    have a2 : ab b = -b := by unfold ab; rw [if_pos hb0]
    rw [a1, a2]
    split <;> simp <;> omega
  · have e1 : a.tdiv b = a / b := Int.tdiv_eq_ediv_of_nonneg (by omega)
    have e2 : a.tmod b = a % b := Int.tmod_eq_emod_of_nonneg (by omega)
    have h2 := Int.emod_nonneg a hb
    rw [qr_eq (show 0 < b by omega), e1, e2]
    have a1 : ab (a % b) = a % b := by unfold ab; split <;> omega
    have a2 : ab b = b := by unfold ab; rw [if_neg hb0]
    rw [a1, a2]
    split <;> simp
/-- Bounds of the two. -/
theorem tdiv_bd {a b c : Int} (hb : b ≠ 0) (h1 : -c ≤ a) (h2 : a ≤ c) : -c ≤ a.tdiv b ∧ a.tdiv b ≤ c := by
  have e : (a.tdiv b).natAbs ≤ a.natAbs := by rw [Int.natAbs_tdiv]; exact Nat.div_le_self _ _
  omega
theorem tmod_bd {a b c : Int} (hb : b ≠ 0) (h1 : -c ≤ b) (h2 : b ≤ c) : -c ≤ a.tmod b ∧ a.tmod b ≤ c := by
  have e : (a.tmod b).natAbs < b.natAbs := by rw [Int.natAbs_tmod]; exact Nat.mod_lt _ (by omega)
  omega
/-- A number on a line through two points, or that of the nearer end. -/
def blendF (x0 y0 x1 y1 x : Int) : Int := if x ≤ x0 ∨ x1 ≤ x0 then y0 else if x1 ≤ x then y1 else y0 + divR ((y1 - y0) * (x - x0)) (x1 - x0)
/-- Products of bounded numbers are bounded. -/
theorem mul_bd {a b c d : Int} (h1 : -c ≤ a) (h2 : a ≤ c) (h3 : 0 ≤ b) (h4 : b ≤ d) (hc : 0 ≤ c) : -(c * d) ≤ a * b ∧ a * b ≤ c * d := by
  have e1 : a * b ≤ c * b := Int.mul_le_mul_of_nonneg_right h2 h3
  have e2 : c * b ≤ c * d := Int.mul_le_mul_of_nonneg_left h4 hc
  have e3 : (-c) * b ≤ a * b := Int.mul_le_mul_of_nonneg_right h1 h3
  rw [Int.neg_mul] at e3
  omega
theorem mul_bd2 {a b c d : Int} (h1 : -c ≤ a) (h2 : a ≤ c) (h3 : -d ≤ b) (h4 : b ≤ d) (hc : 0 ≤ c) (hd : 0 ≤ d) : -(c * d) ≤ a * b ∧ a * b ≤ c * d := by
  by_cases hb : 0 ≤ b
  · exact mul_bd h1 h2 hb h4 hc
  · have h := mul_bd (b := -b) h1 h2 (by omega) (by omega) hc (d := d)
    rw [Int.mul_neg] at h
    omega
theorem divR_self_bd {u v w : Int} (hw : 0 < w) (h0 : 0 ≤ v) (h1 : v ≤ w) : (0 ≤ u → 0 ≤ divR (u * v) w ∧ divR (u * v) w ≤ u) ∧ (u ≤ 0 → u ≤ divR (u * v) w ∧ divR (u * v) w ≤ 0) := by
  have key : ∀ u : Int, 0 ≤ u → 0 ≤ qr (u * v) w ∧ qr (u * v) w ≤ u := by
    intro u hu
    have e1 : 0 ≤ u * v := Int.mul_nonneg hu h0
    have e2 : u * v ≤ u * w := Int.mul_le_mul_of_nonneg_left h1 hu
    have e3 := qr_mono e2 hw
    rw [qr_mul hw] at e3
    exact ⟨qr_nonneg e1 hw, e3⟩
  constructor
  · intro hu
    rw [divR_nonneg (Int.mul_nonneg hu h0) hw]
    exact key u hu
  · intro hu
    by_cases hz : u * v = 0
    · rw [hz, divR_nonneg (by omega) hw]
      have e : qr 0 w = 0 := by have := qr_mul (k := 0) hw; simpa using this
      rw [e]; omega
    · have hn : u * v < 0 := by
        have e1 : (-u) * v ≥ 0 := Int.mul_nonneg (by omega) h0
        rw [Int.neg_mul] at e1
        omega
      rw [divR_neg hn hw, ← Int.neg_mul]
      have := key (-u) (by omega)
      omega
/-- The line stays between its ends. -/
theorem blendF_bd {x0 y0 x1 y1 x lo hi : Int} (h1 : lo ≤ y0) (h2 : y0 ≤ hi) (h3 : lo ≤ y1) (h4 : y1 ≤ hi) : lo ≤ blendF x0 y0 x1 y1 x ∧ blendF x0 y0 x1 y1 x ≤ hi := by
  unfold blendF
  split
  · omega
  · split
    · omega
    · have h := divR_self_bd (u := y1 - y0) (v := x - x0) (w := x1 - x0) (by omega) (by omega) (by omega)
      rcases Int.le_total 0 (y1 - y0) with g | g
      · have := h.1 g; omega
      · have := h.2 g; omega
/-- Division with the program's check of its arguments. -/
def dvr (a b : Int) : Int := if b == 0 || !inB a (-1000000000000) 1000000000000 || !inB b (-1000000000000) 1000000000000 then 0 else divR a b
def blB (x0 y0 x1 y1 : Int) : Bool := inB x0 (-1000000) 1000000 && inB y0 (-1000000) 1000000 && inB x1 (-1000000) 1000000 && inB y1 (-1000000) 1000000
def blendC (x0 y0 x1 y1 x : Int) : Int := if blB x0 y0 x1 y1 then blendF x0 y0 x1 y1 x else 0
theorem blB_t {x0 y0 x1 y1 : Int} (h : blB x0 y0 x1 y1 = true) : (-1000000 ≤ x0 ∧ x0 ≤ 1000000) ∧ (-1000000 ≤ y0 ∧ y0 ≤ 1000000) ∧ (-1000000 ≤ x1 ∧ x1 ≤ 1000000) ∧ (-1000000 ≤ y1 ∧ y1 ≤ 1000000) := by
  unfold blB at h
  simp only [Bool.and_eq_true] at h
  exact ⟨inB_t h.1.1.1, inB_t h.1.1.2, inB_t h.1.2, inB_t h.2⟩
end Go.Proofs.YtmkmhljiajgibaaGreatDoor
