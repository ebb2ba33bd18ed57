/-
  Plain facts on days and dates, no program in sight.
-/
import Derived.Test.YtjnaedbikdpkeabMa
namespace Go.Proofs.Ytjnaedbikdpkeab
set_option linter.unusedVariables false
set_option linter.unusedSimpArgs false
/-- A year of 366 days. -/
def leap (y : Int) : Bool := (y % 4 == 0 && y % 100 != 0) || y % 400 == 0
def ylen (y : Int) : Int := if leap y then 366 else 365
def mlen (y m : Int) : Int := if m = 4 ∨ m = 6 ∨ m = 9 ∨ m = 11 then 30 else if m = 2 then ylen y - 337 else 31
theorem ylen_bd (y : Int) : 365 ≤ ylen y ∧ ylen y ≤ 366 := by unfold ylen; split <;> omega
theorem mlen_bd (y m : Int) : 28 ≤ mlen y m ∧ mlen y m ≤ 31 := by have := ylen_bd y; unfold mlen; split <;> (try split) <;> omega
/-- The days of the n years from 2000 on; of the first n months of a year. -/
def dbyN : Nat → Int
  | 0 => 0
  | n + 1 => dbyN n + ylen (2000 + n)
def cumN (y : Int) : Nat → Int
  | 0 => 0
  | n + 1 => cumN y n + mlen y (n + 1)
def dby (y : Int) : Int := dbyN (y - 2000).toNat
def cum (y m : Int) : Int := cumN y (m - 1).toNat
theorem dby_0 : dby 2000 = 0 := rfl
theorem cum_1 (y : Int) : cum y 1 = 0 := rfl
theorem dby_succ (y : Int) (h : 2000 ≤ y) : dby (y + 1) = dby y + ylen y := by
  obtain ⟨n, rfl⟩ : ∃ n : Nat, y = 2000 + n := ⟨(y - 2000).toNat, by omega⟩
  unfold dby
  rw [show ((2000 : Int) + n + 1 - 2000).toNat = n + 1 by omega, show ((2000 : Int) + n - 2000).toNat = n by omega]
  rfl
theorem cum_succ (y m : Int) (h : 1 ≤ m) : cum y (m + 1) = cum y m + mlen y m := by
  obtain ⟨n, rfl⟩ : ∃ n : Nat, m = n + 1 := ⟨(m - 1).toNat, by omega⟩
  unfold cum
  rw [show ((n : Int) + 1 + 1 - 1).toNat = n + 1 by omega, show ((n : Int) + 1 - 1).toNat = n by omega]
  rfl
theorem cum_13 (y : Int) : cum y 13 = ylen y := by
  have e : cum y 13 = cumN y 12 := rfl
  rw [e]
  simp [cumN, mlen]
  omega
theorem dbyN_bd (n : Nat) : 365 * n ≤ dbyN n ∧ dbyN n ≤ 366 * n := by
  induction n with
  | zero => simp [dbyN]
  | succ n ih => have := ylen_bd (2000 + n); simp only [dbyN]; omega
theorem dby_bd (y : Int) (h : 2000 ≤ y) : 365 * (y - 2000) ≤ dby y ∧ dby y ≤ 366 * (y - 2000) := by
  have := dbyN_bd (y - 2000).toNat
  unfold dby
  omega
theorem cumN_bd (y : Int) (n : Nat) : 28 * n ≤ cumN y n ∧ cumN y n ≤ 31 * n := by
  induction n with
  | zero => simp [cumN]
  | succ n ih => have := mlen_bd y (n + 1); simp only [cumN]; omega
theorem cum_bd (y m : Int) (h : 1 ≤ m) : 28 * (m - 1) ≤ cum y m ∧ cum y m ≤ 31 * (m - 1) := by
  have := cumN_bd y (m - 1).toNat
  unfold cum
  omega
theorem dbyN_mono {a b : Nat} (h : a ≤ b) : dbyN a ≤ dbyN b := by
  induction h with
  | refl => omega
  | @step k _ ih => have := ylen_bd (2000 + k); simp only [dbyN]; omega
theorem dby_mono {a b : Int} (h : a ≤ b) : dby a ≤ dby b := by unfold dby; exact dbyN_mono (by omega)
theorem cumN_mono (y : Int) {a b : Nat} (h : a ≤ b) : cumN y a ≤ cumN y b := by
  induction h with
  | refl => omega
  | @step k _ ih => have := mlen_bd y (k + 1); simp only [cumN]; omega
theorem cum_mono (y : Int) {a b : Int} (h : a ≤ b) : cum y a ≤ cum y b := by unfold cum; exact cumN_mono y (by omega)
theorem dby_top : dby 2274 = 100077 := by decide +kernel
/-- The date of a day. -/
def IsDate (day y m d : Int) : Prop := 2000 ≤ y ∧ 1 ≤ m ∧ m ≤ 12 ∧ 1 ≤ d ∧ d ≤ mlen y m ∧ dby y + cum y m + (d - 1) = day
theorem IsDate.inYear {day y m d : Int} (h : IsDate day y m d) : dby y ≤ day ∧ day < dby (y + 1) := by
  obtain ⟨h1, h2, h3, h4, h5, h6⟩ := h
  have a := cum_succ y m h2
  have b := cum_mono y (show m + 1 ≤ 13 by omega)
  have c := cum_13 y
  have e := dby_succ y h1
  have f := cum_bd y m h2
  omega
theorem IsDate.unique {day y m d y' m' d' : Int} (h : IsDate day y m d) (h' : IsDate day y' m' d') : y = y' ∧ m = m' ∧ d = d' := by
  have a := h.inYear
  have a' := h'.inYear
  have ey : y = y' := by
    rcases Int.lt_trichotomy y y' with g | g | g
    · have := dby_mono (show y + 1 ≤ y' by omega); omega
    · exact g
    · have := dby_mono (show y' + 1 ≤ y by omega); omega
  subst ey
  obtain ⟨h1, h2, h3, h4, h5, h6⟩ := h
  obtain ⟨g1, g2, g3, g4, g5, g6⟩ := h'
  have c := cum_succ y m h2
  have c' := cum_succ y m' g2
  have em : m = m' := by
    rcases Int.lt_trichotomy m m' with g | g | g
    · have := cum_mono y (show m + 1 ≤ m' by omega); omega
    · exact g
    · have := cum_mono y (show m' + 1 ≤ m by omega); omega
  subst em
  exact ⟨rfl, rfl, by omega⟩
theorem IsDate.year {day y m d : Int} (h : IsDate day y m d) (hd : day ≤ 99999) : y ≤ 2273 := by
  have a := h.inYear
  by_cases g : y ≤ 2273
  · exact g
  · have := dby_mono (show 2274 ≤ y by omega)
    have := dby_top
    omega
/-- A valid moment, as a Bool; all its milliseconds. -/
def okM (d m : Int) : Bool := inB d 0 99999 && inB m 0 86399999
theorem okM_t {d m : Int} (h : okM d m = true) : (0 ≤ d ∧ d ≤ 99999) ∧ 0 ≤ m ∧ m ≤ 86399999 := by
  unfold okM at h
  rw [Bool.and_eq_true] at h
  exact ⟨inB_t h.1, inB_t h.2⟩
theorem okM_mk {d m : Int} (h : (0 ≤ d ∧ d ≤ 99999) ∧ 0 ≤ m ∧ m ≤ 86399999) : okM d m = true := by
  unfold okM; rw [inB_mk h.1, inB_mk h.2]; rfl
/-- How far the sky has turned. -/
def turned (t : Int) : Int := t / 240 + t * 985647 / 86400000000
theorem turned_mono {a b : Int} (h : a ≤ b) : turned a ≤ turned b := by
  unfold turned
  have h1 := Int.ediv_le_ediv (show (0 : Int) < 240 by omega) h
  have h2 := Int.ediv_le_ediv (show (0 : Int) < 86400000000 by omega) (show a * 985647 ≤ b * 985647 by omega)
  exact Int.add_le_add h1 h2
theorem turned_step (a : Int) : turned (a + 1) ≤ turned a + 2 := by
  unfold turned
  have h1 : (a + 1) / 240 ≤ a / 240 + 1 := by omega
  have h2 : (a + 1) * 985647 / 86400000000 ≤ a * 985647 / 86400000000 + 1 := by omega
  omega
theorem turned_bd {t : Int} (h0 : 0 ≤ t) (h1 : t ≤ 9000000000000) : 0 ≤ turned t ∧ turned t ≤ 37602671562 := by
  have a := turned_mono h0
  have b := turned_mono h1
  have c : turned 0 = 0 := by decide
  have d : turned 9000000000000 = 37602671562 := by decide
  omega
/-- A day on: the sky has turned round at least once. -/
theorem turned_day {t : Int} : turned t + 360000 ≤ turned (t + 86400000) := by
  unfold turned
  have h1 : (t + 86400000) / 240 = t / 240 + 360000 := by omega
  have h2 : t * 985647 / 86400000000 ≤ (t + 86400000) * 985647 / 86400000000 := Int.ediv_le_ediv (by omega) (by omega)
  omega
end Go.Proofs.Ytjnaedbikdpkeab
