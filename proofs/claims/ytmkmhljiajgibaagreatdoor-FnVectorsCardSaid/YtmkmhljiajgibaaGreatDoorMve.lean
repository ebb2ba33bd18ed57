/-
  The law on vectors: angles of a direction come back near, its length is near. Plain integers, no program in sight.
-/
import Derived.Test.YtmkmhljiajgibaaGreatDoorAng
import Derived.Test.YtmkmhljiajgibaaGreatDoorMlaw
import Derived.Test.YtmkmhljiajgibaaGreatDoorDir
import Derived.Test.YtmkmhljiajgibaaGreatDoorMturn
import Derived.Test.YtmkmhljiajgibaaGreatDoorVec2
namespace Go.Proofs.YtmkmhljiajgibaaGreatDoor
set_option linter.unusedVariables false
set_option linter.unusedSimpArgs false

theorem sinQ_steep1 (m : Nat) (h : m < 46000) : sinQ m + 11 ≤ sinQ (m + 1) := by
  unfold sinQ
  have h1 := tab_gap (m / 1000) (by omega)
  by_cases hd : m % 1000 = 999
  · have e1 : (m + 1) / 1000 = m / 1000 + 1 := by omega
    have e2 : (m + 1) % 1000 = 0 := by omega
    rw [e1, e2, hd]
    generalize tab (m / 1000) = a at *
    generalize tab (m / 1000 + 1) = b at *
    omega
  · have e1 : (m + 1) / 1000 = m / 1000 := by omega
    have e2 : (m + 1) % 1000 = m % 1000 + 1 := by omega
    rw [e1, e2]
    generalize tab (m / 1000) = a at *
    generalize tab (m / 1000 + 1) = b at *
    generalize m % 1000 = d at *
    have h2 : (b - a) * ((d + 1 : Nat) : Int) = (b - a) * (d : Int) + (b - a) := by rw [Int.natCast_add, Int.mul_add]; simp
    rw [h2]
    generalize (b - a) * (d : Int) = x at *
    omega
theorem sinQ_steep (m : Nat) : ∀ k : Nat, m + k ≤ 46000 → sinQ m + 11 * k ≤ sinQ (m + k)
  | 0, _ => by simp
  | k + 1, h => by
    have h1 := sinQ_steep m k (by omega)
    have h2 := sinQ_steep1 (m + k) (by omega)
    rw [show m + (k + 1) = m + k + 1 by omega]
    omega
theorem sinQ_44980 : 700000 ≤ sinQ 44980 := by decide
theorem atn_low {u v m : Int} (h : u ≤ v) : True := trivial
/-- The least place: where the condition holds from p + 20 on and does not hold up to p - 21. -/
theorem arcLow_near {u v : Int} {p : Nat} (hp : p ≤ 45020) (h1 : ∀ m : Nat, p + 20 ≤ m → m ≤ 45000 → atnP u v m = true) (h2 : ∀ m : Nat, m + 21 ≤ p → atnP u v m = false) : (p : Int) - 20 ≤ arcLow u v ∧ arcLow u v ≤ p + 20 := by
  obtain ⟨b1, b2⟩ := arcLow_bd u v
  have hs := bs_spec (p := atnP u v) 45000 0 45000 (by decide) (by omega)
  have e : bs (atnP u v) 0 45000 = arcLow u v := rfl
  rw [e] at hs
  obtain ⟨-, -, hs1, hs2⟩ := hs
  clear e
  generalize arcLow u v = A at *
  obtain ⟨r, rfl⟩ := Int.eq_ofNat_of_zero_le b1
  constructor
  · by_cases g : (p : Int) - 20 ≤ r
    · exact g
    · exfalso
      have h3 := h2 r (by omega)
      rcases hs1 with h | h
      · omega
      · rw [h3] at h; cases h
  · by_cases g : (r : Int) ≤ p + 20
    · exact g
    · exfalso
      have h3 := h1 (r - 1) (by omega) (by omega)
      rcases hs2 with h | h
      · omega
      · rw [show ((r : Int) - 1) = ((r - 1 : Nat) : Int) by omega, h3] at h; cases h
/-- Two legs u, v of the angle p, scaled by T, with errors. -/
theorem arcLow_of {u v T Eu Ev : Int} {p : Nat} (hp : p ≤ 90000) (hT : 0 < T) (hu1 : -Eu ≤ 1000000 * u - T * sinQ p) (hu2 : 1000000 * u - T * sinQ p ≤ Eu) (hv1 : -Ev ≤ 1000000 * v - T * sinQ (90000 - p)) (hv2 : 1000000 * v - T * sinQ (90000 - p) ≤ Ev) (hE : 1000000 * (Eu + Ev) < 150000000 * T) (huv : u ≤ v) :
    (p : Int) - 20 ≤ arcLow u v ∧ arcLow u v ≤ p + 20 := by
  have hE0 : 0 ≤ Eu := by omega
  have hE1 : 0 ≤ Ev := by omega
  have hp2 : p ≤ 45020 := by
    rcases Nat.lt_or_ge 45020 p with g | g
    · exfalso
      have a1 := sinQ_mono (show 45021 ≤ p by omega) hp
      have a2 := sinQ_mono (show 90000 - p ≤ 44979 by omega) (by omega)
      have a3 := sinQ_steep 44979 42 (by omega)
      rw [show 44979 + 42 = 45021 by omega] at a3
      have a4 : 462 ≤ sinQ p - sinQ (90000 - p) := by omega
      have a5 := Int.mul_le_mul_of_nonneg_left a4 (show 0 ≤ T by omega)
      rw [Int.mul_sub] at a5
      generalize T * sinQ p = x at *
      generalize T * sinQ (90000 - p) = y at *
      omega
    · exact g
  have hc : 700000 ≤ sinQ (90000 - p) := by
    have := sinQ_mono (show 44980 ≤ 90000 - p by omega) (by omega)
    have := sinQ_44980
    omega
  obtain ⟨s0, s1⟩ := sinQ_bd p hp
  obtain ⟨c0, c1⟩ := sinQ_bd (90000 - p) (by omega)
  -- the cross product at m
  have key : ∀ m : Nat, m ≤ 45000 → 1000000 * (sinI m * v - cosI m * u) = T * (sinQ m * sinQ (90000 - p) - sinQ (90000 - m) * sinQ p) + sinQ m * (1000000 * v - T * sinQ (90000 - p)) - sinQ (90000 - m) * (1000000 * u - T * sinQ p) := by
    intro m hm
    rw [sinI_q (by omega), cosI_q (by omega)]
    grind
  have err : ∀ m : Nat, m ≤ 45000 → -(1000000 * (Eu + Ev)) ≤ sinQ m * (1000000 * v - T * sinQ (90000 - p)) - sinQ (90000 - m) * (1000000 * u - T * sinQ p) ∧ sinQ m * (1000000 * v - T * sinQ (90000 - p)) - sinQ (90000 - m) * (1000000 * u - T * sinQ p) ≤ 1000000 * (Eu + Ev) := by
    intro m hm
    obtain ⟨m0, m1⟩ := sinQ_bd m (by omega)
    obtain ⟨n0, n1⟩ := sinQ_bd (90000 - m) (by omega)
    have b1 := mul_bd2 (a := sinQ m) (b := 1000000 * v - T * sinQ (90000 - p)) (c := 1000000) (d := Ev) (by omega) m1 hv1 hv2 (by omega) hE1
    have b2 := mul_bd2 (a := sinQ (90000 - m)) (b := 1000000 * u - T * sinQ p) (c := 1000000) (d := Eu) (by omega) n1 hu1 hu2 (by omega) hE0
    generalize sinQ m * (1000000 * v - T * sinQ (90000 - p)) = x at *
    generalize sinQ (90000 - m) * (1000000 * u - T * sinQ p) = y at *
    omega
  refine arcLow_near hp2 (fun m hm hm2 => ?_) (fun m hm => ?_)
  · unfold atnP
    refine decide_eq_true ?_
    have k1 := key m hm2
    have k2 := err m hm2
    have st := sinQ_steep p 20 (by omega)
    have mo := sinQ_mono hm (show m ≤ 90000 by omega)
    have d1 : 220 ≤ sinQ m - sinQ p := by omega
    have co := sinQ_mono (show 90000 - m ≤ 90000 - p by omega) (by omega)
    have x1 := Int.mul_le_mul d1 hc (by omega) (by omega)
    have x2 := Int.mul_le_mul_of_nonneg_right co s0
    have e1 : (sinQ m - sinQ p) * sinQ (90000 - p) = sinQ m * sinQ (90000 - p) - sinQ (90000 - p) * sinQ p := by grind
    rw [e1] at x1
    have x3 : 150000000 ≤ sinQ m * sinQ (90000 - p) - sinQ (90000 - m) * sinQ p := by omega
    have x4 := Int.mul_le_mul_of_nonneg_left x3 (show 0 ≤ T by omega)
    generalize T * (sinQ m * sinQ (90000 - p) - sinQ (90000 - m) * sinQ p) = X at *
    generalize sinI m * v = a at *
    generalize cosI m * u = b at *
    omega
  · unfold atnP
    refine decide_eq_false ?_
    have k1 := key m (by omega)
    have k2 := err m (by omega)
    have st := sinQ_steep m 21 (by omega)
    have mo := sinQ_mono hm hp
    have d1 : 220 ≤ sinQ p - sinQ m := by omega
    have co := sinQ_mono (show 90000 - p ≤ 90000 - m by omega) (by omega)
    have x1 := Int.mul_le_mul d1 hc (by omega) (by omega)
    have x2 := Int.mul_le_mul_of_nonneg_right co s0
    have e1 : (sinQ p - sinQ m) * sinQ (90000 - p) = sinQ (90000 - p) * sinQ p - sinQ m * sinQ (90000 - p) := by grind
    rw [e1] at x1
    have x3 : 150000000 ≤ -(sinQ m * sinQ (90000 - p) - sinQ (90000 - m) * sinQ p) := by omega
    have x4 := Int.mul_le_mul_of_nonneg_left x3 (show 0 ≤ T by omega)
    rw [Int.mul_neg] at x4
    generalize T * (sinQ m * sinQ (90000 - p) - sinQ (90000 - m) * sinQ p) = X at *
    generalize sinI m * v = a at *
    generalize cosI m * u = b at *
    omega
/-- The arc of one quarter. -/
theorem arcB_of {y x T Ey Ex : Int} {p : Nat} (hp : p ≤ 90000) (hT : 0 < T) (hy1 : -Ey ≤ 1000000 * ab y - T * sinQ p) (hy2 : 1000000 * ab y - T * sinQ p ≤ Ey) (hx1 : -Ex ≤ 1000000 * ab x - T * sinQ (90000 - p)) (hx2 : 1000000 * ab x - T * sinQ (90000 - p) ≤ Ex) (hE : 1000000 * (Ey + Ex) < 150000000 * T) :
    (p : Int) - 20 ≤ arcB y x ∧ arcB y x ≤ p + 20 := by
  unfold arcB
  by_cases g : ab x < ab y
  · rw [if_pos g]
    have h := arcLow_of (u := ab x) (v := ab y) (T := T) (Eu := Ex) (Ev := Ey) (p := 90000 - p) (by omega) hT hx1 hx2 (by rw [show 90000 - (90000 - p) = p by omega]; exact hy1) (by rw [show 90000 - (90000 - p) = p by omega]; exact hy2) (by omega) (by omega)
    omega
  · rw [if_neg g]
    exact arcLow_of hp hT hy1 hy2 hx1 hx2 hE (by omega)
theorem arcB_y0 {x : Int} (h : x ≠ 0) : arcB 0 x = 0 := by
  have hx : 0 < ab x := by unfold ab; split <;> omega
  have e0 : ab 0 = 0 := rfl
  unfold arcB
  rw [e0, if_neg (by omega)]
  have hs := bs_spec (p := atnP 0 (ab x)) 45000 0 45000 (by decide) (by omega)
  have e : bs (atnP 0 (ab x)) 0 45000 = arcLow 0 (ab x) := rfl
  rw [e] at hs
  obtain ⟨b1, b2⟩ := arcLow_bd 0 (ab x)
  obtain ⟨-, -, hs1, hs2⟩ := hs
  clear e
  generalize arcLow 0 (ab x) = A at *
  rcases hs2 with h2 | h2
  · exact h2
  · obtain ⟨r, rfl⟩ := Int.eq_ofNat_of_zero_le b1
    by_cases g : r = 0
    · subst g; rfl
    · exfalso
      unfold atnP at h2
      have := of_decide_eq_false h2
      rw [Int.mul_zero, show ((r : Int) - 1) = ((r - 1 : Nat) : Int) by omega, sinI_q (by omega)] at this
      have q := (sinQ_bd (r - 1) (by omega)).1
      have := Int.mul_nonneg q (show 0 ≤ ab x by omega)
      omega
theorem arcB_x0 {y : Int} (h : y ≠ 0) : arcB y 0 = 90000 := by
  have hx : 0 < ab y := by unfold ab; split <;> omega
  have e0 : ab 0 = 0 := rfl
  have k := arcB_y0 h
  unfold arcB at k ⊢
  rw [e0] at k ⊢
  rw [if_neg (by omega)] at k
  rw [if_pos hx, k]
  rfl
/-- The arc in all quarters, where the signs go with an angle's quarter. -/
theorem arcF_1 {y x : Int} (hx : 0 ≤ x) (hy : 0 ≤ y) : arcF y x = arcB y x := by unfold arcF; rw [if_pos ⟨hx, hy⟩]
theorem arcF_2 {y x : Int} (hx : x ≤ 0) (hy : 0 ≤ y) (h : x ≠ 0 ∨ y ≠ 0) : arcF y x = 180000 - arcB y x := by
  by_cases g : x = 0
  · subst g
    rw [arcF_1 (Int.le_refl _) hy, arcB_x0 (by omega)]; rfl
  · unfold arcF; rw [if_neg (by omega), if_pos hy]
theorem arcF_3 {y x : Int} (hx : x ≤ 0) (hy : y ≤ 0) (h : x ≠ 0 ∨ y ≠ 0) : arcF y x = 180000 + arcB y x := by
  by_cases g : y = 0
  · subst g
    rw [arcF_2 hx (Int.le_refl _) h, arcB_y0 (by omega)]; rfl
  · by_cases k : x = 0
    · subst k
      rw [arcB_x0 g]
      unfold arcF
      rw [if_neg (by omega), if_neg (by omega), if_neg (by omega), arcB_x0 g]
      rfl
    · unfold arcF; rw [if_neg (by omega), if_neg (by omega), if_pos (by omega)]
theorem arcF_4 {y x : Int} (hx : 0 ≤ x) (hy : y ≤ 0) (h : x ≠ 0 ∨ y ≠ 0) : arcF y x = (-arcB y x) % 360000 := by
  by_cases g : y = 0
  · subst g
    rw [arcF_1 hx (Int.le_refl _), arcB_y0 (by omega)]; rfl
  · unfold arcF; rw [if_neg (by omega), if_neg (by omega), if_neg (by omega)]
/-- A rounded product. -/
theorem divR_sign {a : Int} : (0 ≤ a → 0 ≤ divR a 1000000) ∧ (a ≤ 0 → divR a 1000000 ≤ 0) := by
  constructor
  · intro h
    rw [divR_nonneg h (by omega)]
    exact qr_nonneg h (by omega)
  · intro h
    by_cases g : a < 0
    · rw [divR_neg g (by omega)]
      have := qr_nonneg (n := -a) (d := 1000000) (by omega) (by omega)
      omega
    · obtain rfl : a = 0 := by omega
      decide
theorem leg {C s : Int} (hC : 0 ≤ C) (hs : 0 ≤ s) : (-500000 ≤ 1000000 * ab (divR (C * s) 1000000) - C * s ∧ 1000000 * ab (divR (C * s) 1000000) - C * s ≤ 500000) ∧ (-500000 ≤ 1000000 * ab (divR (C * -s) 1000000) - C * s ∧ 1000000 * ab (divR (C * -s) 1000000) - C * s ≤ 500000) := by
  have h := Int.mul_nonneg hC hs
  have n1 := near_div (C * s)
  have n2 := near_div (C * -s)
  have g1 := divR_sign.1 h
  have g2 := (divR_sign (a := C * -s)).2 (by rw [Int.mul_neg]; omega)
  unfold Near at n1 n2
  rw [Int.mul_neg] at n2 g2 ⊢
  generalize divR (C * s) 1000000 = P at *
  generalize divR (-(C * s)) 1000000 = Q at *
  unfold ab
  constructor
  · rw [if_neg (by omega)]; omega
  · split <;> omega
/-- The longitude comes back. -/
theorem lon_near {L C : Int} (hC1 : 17000 ≤ C) (hC2 : C ≤ 1000000) (h : divR (C * cosI L) 1000000 ≠ 0 ∨ divR (C * sinI L) 1000000 ≠ 0) :
    ∃ d : Int, -20 ≤ d ∧ d ≤ 20 ∧ (arcF (divR (C * sinI L) 1000000) (divR (C * cosI L) 1000000) - L - d) % 360000 = 0 := by
  obtain ⟨p, hp, hq⟩ := quarters L
  obtain ⟨s0, -⟩ := sinQ_bd p hp
  obtain ⟨c0, -⟩ := sinQ_bd (90000 - p) (by omega)
  obtain ⟨ls1, ls2⟩ := leg (C := C) (show 0 ≤ C by omega) s0
  obtain ⟨lc1, lc2⟩ := leg (C := C) (show 0 ≤ C by omega) c0
  have ms := Int.mul_nonneg (show 0 ≤ C by omega) s0
  have mc := Int.mul_nonneg (show 0 ≤ C by omega) c0
  have ms' : C * -sinQ p ≤ 0 := by rw [Int.mul_neg]; omega
  have mc' : C * -sinQ (90000 - p) ≤ 0 := by rw [Int.mul_neg]; omega
  rcases hq with ⟨hm, -, hs, hc⟩ | ⟨hm, -, hs, hc⟩ | ⟨hm, -, hs, hc⟩ | ⟨hm, -, hs, hc⟩
  · rw [hs, hc] at h ⊢
    have hb := arcB_of (y := divR (C * sinQ p) 1000000) (x := divR (C * sinQ (90000 - p)) 1000000) (T := C) (Ey := 500000) (Ex := 500000) hp (by omega) ls1.1 ls1.2 lc1.1 lc1.2 (by omega)
    rw [arcF_1 (divR_sign.1 mc) (divR_sign.1 ms)]
    exact ⟨arcB (divR (C * sinQ p) 1000000) (divR (C * sinQ (90000 - p)) 1000000) - p, by omega, by omega, by omega⟩
  · rw [hs, hc] at h ⊢
    have hb := arcB_of (y := divR (C * sinQ p) 1000000) (x := divR (C * -sinQ (90000 - p)) 1000000) (T := C) (Ey := 500000) (Ex := 500000) hp (by omega) ls1.1 ls1.2 lc2.1 lc2.2 (by omega)
    rw [arcF_2 (divR_sign.2 mc') (divR_sign.1 ms) h]
    exact ⟨p - arcB (divR (C * sinQ p) 1000000) (divR (C * -sinQ (90000 - p)) 1000000), by omega, by omega, by omega⟩
  · rw [hs, hc] at h ⊢
    have hb := arcB_of (y := divR (C * -sinQ p) 1000000) (x := divR (C * -sinQ (90000 - p)) 1000000) (T := C) (Ey := 500000) (Ex := 500000) hp (by omega) ls2.1 ls2.2 lc2.1 lc2.2 (by omega)
    rw [arcF_3 (divR_sign.2 mc') (divR_sign.2 ms') h]
    exact ⟨arcB (divR (C * -sinQ p) 1000000) (divR (C * -sinQ (90000 - p)) 1000000) - p, by omega, by omega, by omega⟩
  · rw [hs, hc] at h ⊢
    have hb := arcB_of (y := divR (C * -sinQ p) 1000000) (x := divR (C * sinQ (90000 - p)) 1000000) (T := C) (Ey := 500000) (Ex := 500000) hp (by omega) ls2.1 ls2.2 lc1.1 lc1.2 (by omega)
    rw [arcF_4 (divR_sign.1 mc) (divR_sign.2 ms') h]
    exact ⟨p - arcB (divR (C * -sinQ p) 1000000) (divR (C * sinQ (90000 - p)) 1000000), by omega, by omega, by omega⟩
/-- What the two legs of the plane sum to. -/
theorem plane {C c s X Y : Int} (hC1 : 17000 ≤ C) (hC2 : C ≤ 1000000) (c1 : -1000000 ≤ c) (c2 : c ≤ 1000000) (s1 : -1000000 ≤ s) (s2 : s ≤ 1000000) (q1 : 999920000000 ≤ s * s + c * c) (q2 : s * s + c * c ≤ 1000002000000) (hX : Near X (C * c)) (hY : Near Y (C * s)) :
    C * C - 82 * C - 1 ≤ X * X + Y * Y ∧ X * X + Y * Y ≤ C * C + 4 * C + 1 := by
  unfold Near at hX hY
  obtain ⟨D, hD⟩ : ∃ D, s * s + c * c = 1000000000000 + D := ⟨s * s + c * c - 1000000000000, by omega⟩
  obtain ⟨e1, he1⟩ : ∃ e, 1000000 * X - C * c = e := ⟨_, rfl⟩
  obtain ⟨e2, he2⟩ : ∃ e, 1000000 * Y - C * s = e := ⟨_, rfl⟩
  rw [he1] at hX
  rw [he2] at hY
  have i1 : 1000000000000 * (X * X + Y * Y) = 1000000000000 * (C * C) + C * (C * D) + 2 * (C * (c * e1 + s * e2)) + e1 * e1 + e2 * e2 := by
    have hD' : D = s * s + c * c - 1000000000000 := by omega
    rw [← he1, ← he2, hD']; grind
  have b1 := mul_bd2 (a := c) (b := e1) (c := 1000000) (d := 500000) c1 c2 hX.1 hX.2 (by omega) (by omega)
  have b2 := mul_bd2 (a := s) (b := e2) (c := 1000000) (d := 500000) s1 s2 hY.1 hY.2 (by omega) (by omega)
  have b3 := mul_bd2 (a := e1) (b := e1) (c := 500000) (d := 500000) hX.1 hX.2 hX.1 hX.2 (by omega) (by omega)
  have b4 := mul_bd2 (a := e2) (b := e2) (c := 500000) (d := 500000) hY.1 hY.2 hY.1 hY.2 (by omega) (by omega)
  have b5 : -(C * 1000000000000) ≤ C * (c * e1 + s * e2) ∧ C * (c * e1 + s * e2) ≤ C * 1000000000000 := by
    have h1 := Int.mul_le_mul_of_nonneg_left (show -1000000000000 ≤ c * e1 + s * e2 by omega) (show 0 ≤ C by omega)
    have h2 := Int.mul_le_mul_of_nonneg_left (show c * e1 + s * e2 ≤ 1000000000000 by omega) (show 0 ≤ C by omega)
    rw [Int.mul_neg] at h1
    exact ⟨h1, h2⟩
  have b6 : -(C * 80000000000000) ≤ C * (C * D) ∧ C * (C * D) ≤ C * 2000000000000 := by
    have g1 : -80000000000000 ≤ C * D := by
      have := Int.mul_le_mul_of_nonneg_left (show -80000000 ≤ D by omega) (show 0 ≤ C by omega)
      omega
    have g2 : C * D ≤ 2000000000000 := by
      have := Int.mul_le_mul_of_nonneg_left (show D ≤ 2000000 by omega) (show 0 ≤ C by omega)
      omega
    have h1 := Int.mul_le_mul_of_nonneg_left g1 (show 0 ≤ C by omega)
    have h2 := Int.mul_le_mul_of_nonneg_left g2 (show 0 ≤ C by omega)
    rw [Int.mul_neg] at h1
    exact ⟨h1, h2⟩
  generalize C * (c * e1 + s * e2) = x1 at *
  generalize C * (C * D) = x2 at *
  generalize e1 * e1 = x3 at *
  generalize e2 * e2 = x4 at *
  generalize C * C = CC at *
  generalize X * X + Y * Y = R at *
  clear he1 he2 hD b1 b2 q1 q2
  omega
theorem root_near {C R r : Int} (hC1 : 17000 ≤ C) (h1 : C * C - 82 * C - 1 ≤ R) (h2 : R ≤ C * C + 4 * C + 1) (hr : IsRoot R r) : -42 ≤ r - C ∧ r - C ≤ 2 := by
  obtain ⟨r0, r1, r2⟩ := hr
  constructor
  · by_cases g : -42 ≤ r - C
    · exact g
    · exfalso
      have := sq_le (a := r + 1) (b := C - 42) (by omega) (by omega)
      have e : (C - 42) * (C - 42) = C * C - 84 * C + 1764 := by grind
      omega
  · by_cases g : r - C ≤ 2
    · exact g
    · exfalso
      have := sq_le (a := C + 3) (b := r) (by omega) (by omega)
      have e : (C + 3) * (C + 3) = C * C + 6 * C + 9 := by grind
      omega
end Go.Proofs.YtmkmhljiajgibaaGreatDoor
