/-
  Turns and turns back: lengths and components stay near. Plain integers, no program in sight.
-/
import Derived.Test.YtmkmhljiajgibaaGreatDoorMroot
import Derived.Test.YtmkmhljiajgibaaGreatDoorMvec
namespace Go.Proofs.YtmkmhljiajgibaaGreatDoor
set_option linter.unusedVariables false
set_option linter.unusedSimpArgs false
theorem sq_nn (a : Int) : 0 ≤ a * a := by
  by_cases g : 0 ≤ a
  · exact Int.mul_nonneg g g
  · have := Int.mul_nonneg (show 0 ≤ -a by omega) (show 0 ≤ -a by omega)
    rwa [Int.neg_mul_neg] at this
theorem sq_zero {a : Int} (h : a * a = 0) : a = 0 := by
  by_cases g : a = 0
  · exact g
  · exfalso
    rcases Int.lt_or_gt_of_ne g with c | c
    · have := Int.mul_pos (show 0 < -a by omega) (show 0 < -a by omega)
      rw [Int.neg_mul_neg] at this
      omega
    · have := Int.mul_pos c c
      omega
/-- P is the nearest millionth of a. -/
def Near (P a : Int) : Prop := -500000 ≤ 1000000 * P - a ∧ 1000000 * P - a ≤ 500000
theorem near_div (a : Int) : Near (divR a 1000000) a := by
  unfold Near divR qr
  split <;> simp <;> omega
theorem back_near {p q s c P Q R T : Int} (p1 : -2000000 ≤ p) (p2 : p ≤ 2000000) (q1 : -2000000 ≤ q) (q2 : q ≤ 2000000) (s1 : -1000000 ≤ s) (s2 : s ≤ 1000000) (c1 : -1000000 ≤ c) (c2 : c ≤ 1000000)
    (sq1 : 999920000000 ≤ s * s + c * c) (sq2 : s * s + c * c ≤ 1000002000000) (hP : Near P (p * c - q * s)) (hQ : Near Q (p * s + q * c)) (hR : Near R (P * c + Q * s)) (hT : Near T (Q * c - P * s)) :
    -1000 ≤ R - p ∧ R - p ≤ 1000 ∧ -1000 ≤ T - q ∧ T - q ≤ 1000 := by
  unfold Near at *
  obtain ⟨D, hD⟩ : ∃ D, s * s + c * c = 1000000000000 + D := ⟨s * s + c * c - 1000000000000, by omega⟩
  obtain ⟨e1, he1⟩ : ∃ e, 1000000 * P - (p * c - q * s) = e := ⟨_, rfl⟩
  obtain ⟨e2, he2⟩ : ∃ e, 1000000 * Q - (p * s + q * c) = e := ⟨_, rfl⟩
  rw [he1] at hP
  rw [he2] at hQ
  have i1 : 1000000 * (P * c + Q * s) = 1000000000000 * p + p * D + e1 * c + e2 * s := by
    have hD' : D = s * s + c * c - 1000000000000 := by omega
    rw [← he1, ← he2, hD']; grind
  have i2 : 1000000 * (Q * c - P * s) = 1000000000000 * q + q * D + e2 * c - e1 * s := by
    have hD' : D = s * s + c * c - 1000000000000 := by omega
    rw [← he1, ← he2, hD']; grind
  have b1 := mul_bd2 (a := p) (b := D) (c := 2000000) (d := 80000000) p1 p2 (by omega) (by omega) (by omega) (by omega)
  have b2 := mul_bd2 (a := q) (b := D) (c := 2000000) (d := 80000000) q1 q2 (by omega) (by omega) (by omega) (by omega)
  have b3 := mul_bd2 (a := e1) (b := c) (c := 500000) (d := 1000000) hP.1 hP.2 c1 c2 (by omega) (by omega)
  have b4 := mul_bd2 (a := e2) (b := s) (c := 500000) (d := 1000000) hQ.1 hQ.2 s1 s2 (by omega) (by omega)
  have b5 := mul_bd2 (a := e2) (b := c) (c := 500000) (d := 1000000) hQ.1 hQ.2 c1 c2 (by omega) (by omega)
  have b6 := mul_bd2 (a := e1) (b := s) (c := 500000) (d := 1000000) hP.1 hP.2 s1 s2 (by omega) (by omega)
  generalize p * D = x1 at *
  generalize q * D = x2 at *
  generalize e1 * c = x3 at *
  generalize e2 * s = x4 at *
  generalize e2 * c = x5 at *
  generalize e1 * s = x6 at *
  generalize P * c + Q * s = x7 at *
  generalize Q * c - P * s = x8 at *
  clear he1 he2 hD sq1 sq2
  omega
theorem sq_lt_abs {p k : Int} (hk : 0 ≤ k) (h : p * p < k * k) : -k ≤ p ∧ p ≤ k := by
  constructor
  · by_cases g : -k ≤ p
    · exact g
    · have := sq_le hk (show k ≤ -p by omega)
      rw [Int.neg_mul_neg] at this
      omega
  · by_cases g : p ≤ k
    · exact g
    · have := sq_le hk (show k ≤ p by omega)
      omega
theorem len_near {p q r s c P Q n m : Int} (p1 : -2000000 ≤ p) (p2 : p ≤ 2000000) (q1 : -2000000 ≤ q) (q2 : q ≤ 2000000) (r1 : -2000000 ≤ r) (r2 : r ≤ 2000000) (s1 : -1000000 ≤ s) (s2 : s ≤ 1000000) (c1 : -1000000 ≤ c) (c2 : c ≤ 1000000)
    (sq1 : 999920000000 ≤ s * s + c * c) (sq2 : s * s + c * c ≤ 1000002000000) (hP : Near P (p * c - q * s)) (hQ : Near Q (p * s + q * c)) (hn : IsRoot (p * p + q * q + r * r) n) (hm : IsRoot (P * P + Q * Q + r * r) m) :
    -500 ≤ n - m ∧ n - m ≤ 500 := by
  unfold Near at *
  obtain ⟨n0, n1, n2⟩ := hn
  obtain ⟨m0, m1, m2⟩ := hm
  obtain ⟨k, hk⟩ : ∃ k, k = n + 1 := ⟨_, rfl⟩
  rw [← hk] at n2
  have pp := sq_nn p
  have qq := sq_nn q
  have rr := sq_nn r
  have bp := mul_bd2 p1 p2 p1 p2 (by omega) (by omega)
  have bq := mul_bd2 q1 q2 q1 q2 (by omega) (by omega)
  have br := mul_bd2 r1 r2 r1 r2 (by omega) (by omega)
  obtain ⟨kp1, kp2⟩ := sq_lt_abs (p := p) (k := k) (by omega) (by omega)
  obtain ⟨kq1, kq2⟩ := sq_lt_abs (p := q) (k := k) (by omega) (by omega)
  have hn3 : n ≤ 3464102 := by
    by_cases g : n ≤ 3464102
    · exact g
    · have := sq_le (a := 3464103) (b := n) (by omega) (by omega)
      omega
  have hkk : k * k ≤ 3464103 * k := Int.mul_le_mul_of_nonneg_right (by omega) (by omega)
  obtain ⟨D, hD⟩ : ∃ D, s * s + c * c = 1000000000000 + D := ⟨s * s + c * c - 1000000000000, by omega⟩
  obtain ⟨A, hA⟩ : ∃ A, p * c - q * s = A := ⟨_, rfl⟩
  obtain ⟨B, hB⟩ : ∃ B, p * s + q * c = B := ⟨_, rfl⟩
  rw [hA] at hP
  rw [hB] at hQ
  obtain ⟨e1, he1⟩ : ∃ e, 1000000 * P - A = e := ⟨_, rfl⟩
  obtain ⟨e2, he2⟩ : ∃ e, 1000000 * Q - B = e := ⟨_, rfl⟩
  rw [he1] at hP
  rw [he2] at hQ
  obtain ⟨L, hL⟩ : ∃ L, p * p + q * q = L := ⟨_, rfl⟩
  have i1 : 1000000000000 * (P * P + Q * Q) = 1000000000000 * L + L * D + 2 * (e1 * A) + 2 * (e2 * B) + e1 * e1 + e2 * e2 := by
    have hD' : D = s * s + c * c - 1000000000000 := by omega
    rw [← he1, ← he2, hD', ← hL, ← hA, ← hB]; grind
  have a1 := mul_bd2 (a := p) (b := c) (c := k) (d := 1000000) kp1 kp2 c1 c2 (by omega) (by omega)
  have a2 := mul_bd2 (a := q) (b := s) (c := k) (d := 1000000) kq1 kq2 s1 s2 (by omega) (by omega)
  have a3 := mul_bd2 (a := p) (b := s) (c := k) (d := 1000000) kp1 kp2 s1 s2 (by omega) (by omega)
  have a4 := mul_bd2 (a := q) (b := c) (c := k) (d := 1000000) kq1 kq2 c1 c2 (by omega) (by omega)
  have hA1 : -(2000000 * k) ≤ A ∧ A ≤ 2000000 * k := by omega
  have hB1 : -(2000000 * k) ≤ B ∧ B ≤ 2000000 * k := by omega
  have b1 := mul_bd2 (a := e1) (b := A) (c := 500000) (d := 2000000 * k) hP.1 hP.2 hA1.1 hA1.2 (by omega) (by omega)
  have b2 := mul_bd2 (a := e2) (b := B) (c := 500000) (d := 2000000 * k) hQ.1 hQ.2 hB1.1 hB1.2 (by omega) (by omega)
  have b3 := mul_bd2 (a := e1) (b := e1) (c := 500000) (d := 500000) hP.1 hP.2 hP.1 hP.2 (by omega) (by omega)
  have b4 := mul_bd2 (a := e2) (b := e2) (c := 500000) (d := 500000) hQ.1 hQ.2 hQ.1 hQ.2 (by omega) (by omega)
  have L0 : 0 ≤ L := by omega
  have L1 : L ≤ k * k := by omega
  have b5 : -(80000000 * L) ≤ L * D := by
    have := Int.mul_le_mul_of_nonneg_left (show -80000000 ≤ D by omega) L0
    rw [Int.mul_comm L (-80000000)] at this
    omega
  have b6 : L * D ≤ 2000000 * L := by
    have := Int.mul_le_mul_of_nonneg_left (show D ≤ 2000000 by omega) L0
    rw [Int.mul_comm L 2000000] at this
    omega
  have nn : k * k = n * n + 2 * n + 1 := by rw [hk]; grind
  generalize e1 * A = x1 at *
  generalize e2 * B = x2 at *
  generalize e1 * e1 = x3 at *
  generalize e2 * e2 = x4 at *
  generalize L * D = x5 at *
  obtain ⟨M, hM⟩ : ∃ M, P * P + Q * Q = M := ⟨_, rfl⟩
  rw [hM] at m1 m2 i1
  rw [hL] at n1 n2
  clear hM hL hA hB he1 he2 hD sq1 sq2 a1 a2 a3 a4 hA1 hB1 pp qq bp bq kp1 kp2 kq1 kq2 hP hQ
  by_cases g1 : m ≤ n + 500
  · by_cases g2 : n ≤ m + 500
    · omega
    · exfalso
      have h1 := sq_le (a := m + 1) (b := n - 500) (by omega) (by omega)
      have h2 : (n - 500) * (n - 500) = n * n - 1000 * n + 250000 := by grind
      omega
  · exfalso
    have h1 := sq_le (a := n + 501) (b := m) (by omega) (by omega)
    have h2 : (n + 501) * (n + 501) = n * n + 1002 * n + 251001 := by grind
    omega
end Go.Proofs.YtmkmhljiajgibaaGreatDoor
