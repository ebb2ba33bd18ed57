/-
  Sines and cosines in the four quarters; their squares; the arc of a sine and a cosine leads back. Plain integers, no program in sight.
-/
import Derived.Test.YtmkmhljiajgibaaGreatDoorMarc
namespace Go.Proofs.YtmkmhljiajgibaaGreatDoor
set_option linter.unusedVariables false
set_option linter.unusedSimpArgs false
theorem tab_gap : ∀ k < 46, tab k + 12000 ≤ tab (k + 1) := by decide +kernel
theorem sinQ_strict1 (m : Nat) (h : m < 46000) : sinQ m < sinQ (m + 1) := by
  unfold sinQ
  have h1 := tab_gap (m / 1000) (by omega)
  by_cases hd : m % 1000 = 999
  · have e1 : (m + 1) / 1000 = m / 1000 + 1 := by omega
    have e2 : (m + 1) % 1000 = 0 := by omega
    rw [e1, e2, hd]
    generalize tab (m / 1000) = a at *
    generalize tab (m / 1000 + 1) = b at *
    omega
  · have e1 : (m + 1) / 1000 = m / 1000 := by omega
    have e2 : (m + 1) % 1000 = m % 1000 + 1 := by omega
    rw [e1, e2]
    generalize tab (m / 1000) = a at *
    generalize tab (m / 1000 + 1) = b at *
    generalize m % 1000 = d at *
    have h2 : (b - a) * ((d + 1 : Nat) : Int) = (b - a) * (d : Int) + (b - a) := by rw [Int.natCast_add, Int.mul_add]; simp
    rw [h2]
    omega
theorem sinQ_strict {m n : Nat} (h : m < n) (hm : m < 46000) (hn : n ≤ 90000) : sinQ m < sinQ n := by
  have h1 := sinQ_strict1 m hm
  have h2 := sinQ_mono (show m + 1 ≤ n by omega) hn
  omega
theorem sinQ_0 : sinQ 0 = 0 := by decide
theorem sinQ_90 : sinQ 90000 = 1000000 := by decide
/-- The quarters. -/
theorem sinI_nat {m : Nat} (h : m < 360000) : sinI (m : Int) = sinF m := by unfold sinI; congr 1; omega
theorem sinH_q {p : Nat} (h : p ≤ 90000) : sinH p = sinQ p ∧ sinH (180000 - p) = sinQ p := by
  unfold sinH
  refine ⟨by rw [if_pos h], ?_⟩
  by_cases g : p = 90000
  · subst g; rfl
  · rw [if_neg (by omega)]; congr 1; omega
theorem sinH_at {q p : Nat} (h : p ≤ 90000) (hq : q = p ∨ q + p = 180000) : sinH q = sinQ p := by
  rcases hq with rfl | hq
  · exact (sinH_q h).1
  · have e : q = 180000 - p := by omega
    rw [e]; exact (sinH_q h).2
theorem quarters (a : Int) : ∃ p : Nat, p ≤ 90000 ∧ (
    (a % 360000 = p ∧ p < 90000 ∧ sinI a = sinQ p ∧ cosI a = sinQ (90000 - p)) ∨
    (a % 360000 = 180000 - p ∧ 0 < p ∧ sinI a = sinQ p ∧ cosI a = -sinQ (90000 - p)) ∨
    (a % 360000 = 180000 + p ∧ p < 90000 ∧ sinI a = -sinQ p ∧ cosI a = -sinQ (90000 - p)) ∨
    (a % 360000 = 360000 - p ∧ 0 < p ∧ sinI a = -sinQ p ∧ cosI a = sinQ (90000 - p))) := by
  obtain ⟨m, hm⟩ : ∃ m : Nat, a % 360000 = m := ⟨(a % 360000).toNat, by omega⟩
  have hm3 : m < 360000 := by omega
  have hs : sinI a = sinF m := by rw [← sinI_mod, hm]; exact sinI_nat hm3
  have hc1 : m < 270000 → cosI a = sinF (m + 90000) := by
    intro h
    unfold cosI
    rw [hm, show (m : Int) + 90000 = ((m + 90000 : Nat) : Int) by omega]
    exact sinI_nat (by omega)
  by_cases h1 : m < 90000
  · refine ⟨m, by omega, .inl ⟨hm, h1, ?_, ?_⟩⟩
    · rw [hs]; unfold sinF; rw [if_pos (by omega)]; exact sinH_at (by omega) (by omega)
    · rw [hc1 (by omega)]; unfold sinF; rw [if_pos (by omega)]; exact sinH_at (by omega) (by omega)
  · by_cases h2 : m < 180000
    · refine ⟨180000 - m, by omega, .inr (.inl ⟨by rw [hm]; omega, by omega, ?_, ?_⟩)⟩
      · rw [hs]; unfold sinF; rw [if_pos (by omega)]; exact sinH_at (by omega) (by omega)
      · rw [hc1 (by omega)]; unfold sinF; rw [if_neg (by omega), sinH_at (p := 90000 - (180000 - m)) (by omega) (by omega)]
    · by_cases h3 : m < 270000
      · refine ⟨m - 180000, by omega, .inr (.inr (.inl ⟨by rw [hm]; omega, by omega, ?_, ?_⟩))⟩
        · rw [hs]; unfold sinF; rw [if_neg (by omega), sinH_at (p := m - 180000) (by omega) (by omega)]
        · rw [hc1 (by omega)]; unfold sinF; rw [if_neg (by omega), sinH_at (p := 90000 - (m - 180000)) (by omega) (by omega)]
      · have hc : cosI a = sinF (m - 270000) := by
          unfold cosI; rw [hm]
          rw [← sinI_mod, show ((m : Int) + 90000) % 360000 = ((m - 270000 : Nat) : Int) by omega]
          exact sinI_nat (by omega)
        refine ⟨360000 - m, by omega, .inr (.inr (.inr ⟨by rw [hm]; omega, by omega, ?_, ?_⟩))⟩
        · rw [hs]; unfold sinF; rw [if_neg (by omega), sinH_at (p := 360000 - m) (by omega) (by omega)]
        · rw [hc]; unfold sinF; rw [if_pos (by omega)]; exact sinH_at (by omega) (by omega)
/-- The squares. -/
def tabN (k : Nat) : Nat := (sinT.getD k 0).toNat
def sN (t0 t1 d : Nat) : Nat := t0 + ((t1 - t0) * d * 2 + 1000) / 2000
def pyOk (s c : Nat) : Bool := Nat.ble (s * s + c * c) 1000002000000 && Nat.ble 999920000000 (s * s + c * c)
def pyAll : Bool := (List.range 45).all fun k => (List.range 1001).all fun d => pyOk (sN (tabN k) (tabN (k + 1)) d) (sN (tabN (89 - k)) (tabN (90 - k)) (1000 - d))
set_option maxRecDepth 100000 in
theorem pyAll_true : pyAll = true := by decide +kernel
theorem tabN_eq : ∀ k < 91, (tabN k : Int) = tab k := by decide +kernel
theorem sN_eq {k d : Nat} (hk : k < 90) (hd : d ≤ 1000) : (sN (tabN k) (tabN (k + 1)) d : Int) = sinQ (1000 * k + d) := by
  have h0 := tabN_eq k (by omega)
  have h1 := tabN_eq (k + 1) (by omega)
  have hs := tab_step k hk
  have hle : tabN k ≤ tabN (k + 1) := by omega
  unfold sN
  by_cases g : d = 1000
  · subst g
    have e : sinQ (1000 * k + 1000) = tab (k + 1) := sinQ_whole (by omega) (by omega)
    rw [e]
    omega
  · unfold sinQ
    rw [show (1000 * k + d) / 1000 = k by omega, show (1000 * k + d) % 1000 = d by omega, ← h0, ← h1]
    have e : ((tabN (k + 1) : Int) - (tabN k : Int)) * (d : Int) * 2 = (((tabN (k + 1) - tabN k) * d * 2 : Nat) : Int) := by
      push_cast [hle]
      rfl
    rw [e]
    omega
theorem sinQ_sq {p : Nat} (h : p ≤ 45000) : 999920000000 ≤ sinQ p * sinQ p + sinQ (90000 - p) * sinQ (90000 - p) ∧ sinQ p * sinQ p + sinQ (90000 - p) * sinQ (90000 - p) ≤ 1000002000000 := by
  obtain ⟨k, d, hk, hd, hp⟩ : ∃ k d : Nat, k < 45 ∧ d ≤ 1000 ∧ p = 1000 * k + d := by
    by_cases g : p = 45000
    · exact ⟨44, 1000, by omega, by omega, by omega⟩
    · exact ⟨p / 1000, p % 1000, by omega, by omega, by omega⟩
  have h1 := List.all_eq_true.1 (List.all_eq_true.1 pyAll_true k (List.mem_range.2 hk)) d (List.mem_range.2 (by omega))
  simp only [pyOk, Bool.and_eq_true, Nat.ble_eq] at h1
  have e1 := sN_eq (k := k) (d := d) (by omega) hd
  have e2 := sN_eq (k := 89 - k) (d := 1000 - d) (by omega) (by omega)
  rw [show 89 - k + 1 = 90 - k by omega, show 1000 * (89 - k) + (1000 - d) = 90000 - p by omega] at e2
  rw [← hp] at e1
  rw [← e1, ← e2]
  generalize sN (tabN k) (tabN (k + 1)) d = s at *
  generalize sN (tabN (89 - k)) (tabN (90 - k)) (1000 - d) = c at *
  have e3 : (s : Int) * s + (c : Int) * c = ((s * s + c * c : Nat) : Int) := by push_cast; rfl
  rw [e3]
  omega
theorem sinQ_sq' {p : Nat} (h : p ≤ 90000) : 999920000000 ≤ sinQ p * sinQ p + sinQ (90000 - p) * sinQ (90000 - p) ∧ sinQ p * sinQ p + sinQ (90000 - p) * sinQ (90000 - p) ≤ 1000002000000 := by
  by_cases g : p ≤ 45000
  · exact sinQ_sq g
  · have := sinQ_sq (p := 90000 - p) (by omega)
    rw [show 90000 - (90000 - p) = p by omega] at this
    omega
theorem sq_sum (a : Int) : 999920000000 ≤ sinI a * sinI a + cosI a * cosI a ∧ sinI a * sinI a + cosI a * cosI a ≤ 1000002000000 := by
  obtain ⟨p, hp, h⟩ := quarters a
  have hq := sinQ_sq' hp
  rcases h with ⟨_, _, hs, hc⟩ | ⟨_, _, hs, hc⟩ | ⟨_, _, hs, hc⟩ | ⟨_, _, hs, hc⟩ <;> rw [hs, hc] <;> (try simp only [Int.neg_mul_neg]) <;> exact hq
/-- The arc of a sine and a cosine of the first half quarter. -/
theorem sinI_q {m : Nat} (h : m ≤ 90000) : sinI (m : Int) = sinQ m := by
  rw [sinI_nat (m := m) (by omega)]; unfold sinF; rw [if_pos (by omega)]; exact (sinH_q h).1
theorem cosI_q {m : Nat} (h : m ≤ 90000) : cosI (m : Int) = sinQ (90000 - m) := by
  by_cases g : m = 90000
  · subst g; decide
  unfold cosI
  rw [show (m : Int) % 360000 + 90000 = ((m + 90000 : Nat) : Int) by omega, sinI_nat (m := m + 90000) (by omega)]
  unfold sinF
  rw [if_pos (by omega)]
  exact sinH_at (by omega) (by omega)
theorem arcLow_eq {p : Nat} (h : p ≤ 45000) : arcLow (sinQ p) (sinQ (90000 - p)) = p := by
  obtain ⟨h1, h2, h3, h4⟩ := bs_spec (p := atnP (sinQ p) (sinQ (90000 - p))) 45000 0 45000 (by omega) (by omega)
  unfold arcLow
  generalize hr : bs (atnP (sinQ p) (sinQ (90000 - p))) 0 45000 = r at *
  obtain ⟨n, rfl⟩ := Int.eq_ofNat_of_zero_le h1
  have hn : n ≤ 45000 := by omega
  have P : ∀ m : Nat, m ≤ 45000 → (atnP (sinQ p) (sinQ (90000 - p)) (m : Int) = true ↔ sinQ (90000 - m) * sinQ p ≤ sinQ m * sinQ (90000 - p)) := by
    intro m hm
    unfold atnP
    rw [decide_eq_true_iff, sinI_q (by omega), cosI_q (by omega)]
  rcases Nat.lt_trichotomy n p with g | g | g
  · exfalso
    rcases h3 with h3 | h3
    · omega
    · have h5 := (P n hn).1 h3
      have a1 := sinQ_strict g (by omega) (by omega)
      have a2 := sinQ_mono (show 90000 - p ≤ 90000 - n by omega) (by omega)
      have a3 := sinQ_bd n (by omega)
      have a4 : 0 < sinQ (90000 - p) := by have := sinQ_strict (show 0 < 90000 - p by omega) (by omega) (by omega); rw [sinQ_0] at this; exact this
      have m1 : sinQ n * sinQ (90000 - p) < sinQ p * sinQ (90000 - p) := Int.mul_lt_mul_of_pos_right a1 a4
      have m2 : sinQ (90000 - p) * sinQ p ≤ sinQ (90000 - n) * sinQ p := Int.mul_le_mul_of_nonneg_right a2 (by omega)
      rw [Int.mul_comm (sinQ (90000 - p)) (sinQ p)] at m2
      omega
  · rw [g]
  · exfalso
    rcases h4 with h4 | h4
    · omega
    · have e : ((n : Int) - 1) = ((n - 1 : Nat) : Int) := by omega
      rw [e] at h4
      have h5 : ¬ (sinQ (90000 - (n - 1)) * sinQ p ≤ sinQ (n - 1) * sinQ (90000 - p)) := fun hh => by
        have := (P (n - 1) (by omega)).2 hh
        rw [this] at h4; cases h4
      have a1 := sinQ_mono (show p ≤ n - 1 by omega) (by omega)
      have a2 := sinQ_mono (show 90000 - (n - 1) ≤ 90000 - p by omega) (by omega)
      have a3 := sinQ_bd p (by omega)
      have a4 := sinQ_bd (90000 - p) (by omega)
      have m1 : sinQ (90000 - (n - 1)) * sinQ p ≤ sinQ (90000 - p) * sinQ p := Int.mul_le_mul_of_nonneg_right a2 (by omega)
      have m2 : sinQ p * sinQ (90000 - p) ≤ sinQ (n - 1) * sinQ (90000 - p) := Int.mul_le_mul_of_nonneg_right a1 (by omega)
      rw [Int.mul_comm (sinQ (90000 - p)) (sinQ p)] at m1
      omega
theorem ab_q {p : Nat} (h : p ≤ 90000) : ab (sinQ p) = sinQ p ∧ ab (-sinQ p) = sinQ p := by
  have := sinQ_bd p h
  unfold ab
  constructor
  · rw [if_neg (by omega)]
  · split <;> omega
theorem arcB_eq {y x : Int} {p : Nat} (h : p ≤ 90000) (hy : ab y = sinQ p) (hx : ab x = sinQ (90000 - p)) : arcB y x = p := by
  unfold arcB
  rw [hy, hx]
  by_cases g : p ≤ 45000
  · have := sinQ_mono (show p ≤ 90000 - p by omega) (by omega)
    rw [if_neg (by omega)]
    exact arcLow_eq g
  · have := sinQ_strict (show 90000 - p < p by omega) (by omega) h
    rw [if_pos (by omega)]
    have e := arcLow_eq (p := 90000 - p) (by omega)
    rw [show 90000 - (90000 - p) = p by omega] at e
    rw [e]
    omega
/-- The arc of the sine and the cosine of an angle is the angle. -/
theorem arcF_back (a : Int) : arcF (sinI a) (cosI a) = a % 360000 := by
  obtain ⟨p, hp, h⟩ := quarters a
  have b1 := sinQ_bd p hp
  have b2 := sinQ_bd (90000 - p) (by omega)
  obtain ⟨q1, q2⟩ := ab_q hp
  obtain ⟨q3, q4⟩ := ab_q (p := 90000 - p) (by omega)
  have z0 := sinQ_0
  rcases h with ⟨hm, hl, hs, hc⟩ | ⟨hm, hl, hs, hc⟩ | ⟨hm, hl, hs, hc⟩ | ⟨hm, hl, hs, hc⟩
  · rw [hs, hc, hm]
    have hb := arcB_eq hp q1 q3
    unfold arcF
    rw [if_pos ⟨by omega, by omega⟩]
    exact hb
  · rw [hs, hc, hm]
    have hb := arcB_eq hp q1 q4
    have hpos := sinQ_strict hl (by omega) hp
    unfold arcF
    rw [hb]
    by_cases g : p = 90000
    · subst g
      rw [show 90000 - 90000 = 0 from rfl, z0, if_pos ⟨by omega, by omega⟩]
      rfl
    · have := sinQ_strict (show 0 < 90000 - p by omega) (by omega) (by omega)
      rw [if_neg (by omega), if_pos (by omega)]
  · rw [hs, hc, hm]
    have hb := arcB_eq hp q2 q4
    have hpos := sinQ_strict (show 0 < 90000 - p by omega) (by omega) (by omega)
    unfold arcF
    rw [hb, if_neg (by omega)]
    by_cases g : p = 0
    · subst g
      rw [z0, if_pos (by omega)]
      rfl
    · have := sinQ_strict (show 0 < p by omega) (by omega) hp
      rw [if_neg (by omega), if_pos (by omega)]
  · rw [hs, hc, hm]
    have hb := arcB_eq hp q2 q3
    have hpos := sinQ_strict hl (by omega) hp
    unfold arcF
    rw [hb, if_neg (by omega), if_neg (by omega), if_neg (by omega)]
    omega
/-- Odd, even, and the half turn. -/
theorem sinI_neg (a : Int) : sinI (-a) = -sinI a := by
  obtain ⟨m, hm⟩ : ∃ m : Nat, a % 360000 = m := ⟨(a % 360000).toNat, by omega⟩
  have hm3 : m < 360000 := by omega
  rw [← sinI_mod a, ← sinI_mod (-a), hm]
  by_cases h0 : m = 0
  · rw [show (-a) % 360000 = ((0 : Nat) : Int) by omega, h0, sinI_nat (by omega)]; decide
  · rw [show (-a) % 360000 = ((360000 - m : Nat) : Int) by omega, sinI_nat (by omega), sinI_nat hm3]
    unfold sinF
    by_cases h1 : m < 180000
    · rw [if_pos h1, if_neg (by omega)]
      by_cases h2 : m ≤ 90000
      · have := sinH_q h2
        rw [this.1, show 360000 - m - 180000 = 180000 - m by omega, this.2]
      · have := sinH_q (p := 180000 - m) (by omega)
        rw [show 180000 - (180000 - m) = m by omega] at this
        rw [this.2, show 360000 - m - 180000 = 180000 - m by omega, this.1]
    · by_cases h3 : m = 180000
      · subst h3; decide
      · rw [if_neg h1, if_pos (by omega)]
        by_cases h2 : m - 180000 ≤ 90000
        · have := sinH_q h2
          rw [this.1, show 360000 - m = 180000 - (m - 180000) by omega, this.2]; omega
        · have := sinH_q (p := 360000 - m) (by omega)
          rw [show 180000 - (360000 - m) = m - 180000 by omega] at this
          rw [this.2, this.1]; omega
theorem sinI_half (a : Int) : sinI (a + 180000) = -sinI a := by
  obtain ⟨m, hm⟩ : ∃ m : Nat, a % 360000 = m := ⟨(a % 360000).toNat, by omega⟩
  have hm3 : m < 360000 := by omega
  rw [← sinI_mod a, ← sinI_mod (a + 180000), hm]
  by_cases h1 : m < 180000
  · rw [show (a + 180000) % 360000 = ((m + 180000 : Nat) : Int) by omega, sinI_nat (by omega), sinI_nat hm3]
    unfold sinF
    rw [if_pos h1, if_neg (by omega), show m + 180000 - 180000 = m by omega]
  · rw [show (a + 180000) % 360000 = ((m - 180000 : Nat) : Int) by omega, sinI_nat (by omega), sinI_nat hm3]
    unfold sinF
    rw [if_neg h1, if_pos (by omega)]
    omega
theorem sinI_back (a : Int) : sinI (180000 - a) = sinI a := by
  rw [show 180000 - a = -a + 180000 by omega, sinI_half, sinI_neg]; omega
theorem cosI_def (a : Int) : cosI a = sinI (a + 90000) := by
  unfold cosI
  rw [← sinI_mod, ← sinI_mod (a + 90000)]
  congr 1
  omega
theorem cosI_neg (a : Int) : cosI (-a) = cosI a := by
  rw [cosI_def, cosI_def, show -a + 90000 = 180000 - (a + 90000) by omega, sinI_back]
end Go.Proofs.YtmkmhljiajgibaaGreatDoor
