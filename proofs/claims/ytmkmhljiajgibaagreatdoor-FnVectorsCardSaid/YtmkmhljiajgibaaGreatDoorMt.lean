/-
  Plain facts on days and dates, no program in sight.
-/
import Derived.Test.YtmkmhljiajgibaaGreatDoorMa
namespace Go.Proofs.YtmkmhljiajgibaaGreatDoor
set_option linter.unusedVariables false
set_option linter.unusedSimpArgs false
/-- A year of 366 days. -/
def leap (y : Int) : Bool := (y % 4 == 0 && y % 100 != 0) || y % 400 == 0
def ylen (y : Int) : Int := if leap y then 366 else 365
def mlen (y m : Int) : Int := if m = 4 ∨ m = 6 ∨ m = 9 ∨ m = 11 then 30 else if m = 2 then ylen y - 337 else 31
theorem ylen_bd (y : Int) : 365 ≤ ylen y ∧ ylen y ≤ 366 := by unfold ylen; split <;> omega
theorem mlen_bd (y m : Int) : 28 ≤ mlen y m ∧ mlen y m ≤ 31 := by have := ylen_bd y; unfold mlen; split <;> (try split) <;> omega
/-- The days of the n years from 2000 on; of the first n months of a year. -/
def dbyN : Nat → Int
  | 0 => 0
  | n + 1 => dbyN n + ylen (2000 + n)
def cumN (y : Int) : Nat → Int
  | 0 => 0
  | n + 1 => cumN y n + mlen y (n + 1)
def dby (y : Int) : Int := dbyN (y - 2000).toNat
def cum (y m : Int) : Int := cumN y (m - 1).toNat
theorem dby_0 : dby 2000 = 0 := rfl
theorem cum_1 (y : Int) : cum y 1 = 0 := rfl
theorem dby_succ (y : Int) (h : 2000 ≤ y) : dby (y + 1) = dby y + ylen y := by
  obtain ⟨n, rfl⟩ : ∃ n : Nat, y = 2000 + n := ⟨(y - 2000).toNat, by omega⟩
  unfold dby
  rw [show ((2000 : Int) + n + 1 - 2000).toNat = n + 1 by omega, show ((2000 : Int) + n - 2000).toNat = n by omega]
  rfl
theorem cum_succ (y m : Int) (h : 1 ≤ m) : cum y (m + 1) = cum y m + mlen y m := by
  obtain ⟨n, rfl⟩ : ∃ n : Nat, m = n + 1 := ⟨(m - 1).toNat, by omega⟩
  unfold cum
  rw [show ((n : Int) + 1 + 1 - 1).toNat = n + 1 by omega, show ((n : Int) + 1 - 1).toNat = n by omega]
  rfl
theorem cum_13 (y : Int) : cum y 13 = ylen y := by
  have e : cum y 13 = cumN y 12 := rfl
  rw [e]
  simp [cumN, mlen]
  omega
theorem dbyN_bd (n : Nat) : 365 * n ≤ dbyN n ∧ dbyN n ≤ 366 * n := by
  induction n with
  | zero => simp [dbyN]
  | succ n ih => have := ylen_bd (2000 + n); simp only [dbyN]; omega
theorem dby_bd (y : Int) (h : 2000 ≤ y) : 365 * (y - 2000) ≤ dby y ∧ dby y ≤ 366 * (y - 2000) := by
  have := dbyN_bd (y - 2000).toNat
  unfold dby
  omega
theorem cumN_bd (y : Int) (n : Nat) : 28 * n ≤ cumN y n ∧ cumN y n ≤ 31 * n := by
  induction n with
  | zero => simp [cumN]
  | succ n ih => have := mlen_bd y (n + 1); simp only [cumN]; omega
theorem cum_bd (y m : Int) (h : 1 ≤ m) : 28 * (m - 1) ≤ cum y m ∧ cum y m ≤ 31 * (m - 1) := by
  have := cumN_bd y (m - 1).toNat
  unfold cum
  omega
theorem dbyN_mono {a b : Nat} (h : a ≤ b) : dbyN a ≤ dbyN b := by
  induction h with
  | refl => omega
  | @step k _ ih => have := ylen_bd (2000 + k); simp only [dbyN]; omega
theorem dby_mono {a b : Int} (h : a ≤ b) : dby a ≤ dby b := by unfold dby; exact dbyN_mono (by omega)
theorem cumN_mono (y : Int) {a b : Nat} (h : a ≤ b) : cumN y a ≤ cumN y b := by
  induction h with
  | refl => omega
  | @step k _ ih => have := mlen_bd y (k + 1); simp only [cumN]; omega
theorem cum_mono (y : Int) {a b : Int} (h : a ≤ b) : cum y a ≤ cum y b := by unfold cum; exact cumN_mono y (by omega)
theorem dby_top : dby 2274 = 100077 := by decide +kernel
/-- The date of a day. -/
def IsDate (day y m d : Int) : Prop := 2000 ≤ y ∧ 1 ≤ m ∧ m ≤ 12 ∧ 1 ≤ d ∧ d ≤ mlen y m ∧ dby y + cum y m + (d - 1) = day
theorem IsDate.inYear {day y m d : Int} (h : IsDate day y m d) : dby y ≤ day ∧ day < dby (y + 1) := by
  obtain ⟨h1, h2, h3, h4, h5, h6⟩ := h
  have a := cum_succ y m h2
  have b := cum_mono y (show m + 1 ≤ 13 by omega)
  have c := cum_13 y
  have e := dby_succ y h1
  have f := cum_bd y m h2
  omega
theorem IsDate.unique {day y m d y' m' d' : Int} (h : IsDate day y m d) (h' : IsDate day y' m' d') : y = y' ∧ m = m' ∧ d = d' := by
  have a := h.inYear
  have a' := h'.inYear
  have ey : y = y' := by
    rcases Int.lt_trichotomy y y' with g | g | g
    · have := dby_mono (show y + 1 ≤ y' by omega); omega
    · exact g
    · have := dby_mono (show y' + 1 ≤ y by omega); omega
  subst ey
  obtain ⟨h1, h2, h3, h4, h5, h6⟩ := h
  obtain ⟨g1, g2, g3, g4, g5, g6⟩ := h'
  have c := cum_succ y m h2
  have c' := cum_succ y m' g2
  have em : m = m' := by
    rcases Int.lt_trichotomy m m' with g | g | g
    · have := cum_mono y (show m + 1 ≤ m' by omega); omega
    · exact g
    · have := cum_mono y (show m' + 1 ≤ m by omega); omega
  subst em
  exact ⟨rfl, rfl, by omega⟩
theorem IsDate.year {day y m d : Int} (h : IsDate day y m d) (hd : day ≤ 99999) : y ≤ 2273 := by
  have a := h.inYear
  by_cases g : y ≤ 2273
  · exact g
  · have := dby_mono (show 2274 ≤ y by omega)
    have := dby_top
    omega
/-- A valid moment, as a Bool; all its milliseconds. -/
def okM (d m : Int) : Bool := inB d 0 99999 && inB m 0 86399999
theorem okM_t {d m : Int} (h : okM d m = true) : (0 ≤ d ∧ d ≤ 99999) ∧ 0 ≤ m ∧ m ≤ 86399999 := by
  unfold okM at h
  rw [Bool.and_eq_true] at h
  exact ⟨inB_t h.1, inB_t h.2⟩
theorem okM_mk {d m : Int} (h : (0 ≤ d ∧ d ≤ 99999) ∧ 0 ≤ m ∧ m ≤ 86399999) : okM d m = true := by
  unfold okM; rw [inB_mk h.1, inB_mk h.2]; rfl
/-- How far the sky has turned. -/
def turned (t : Int) : Int := t / 240 + t * 985647 / 86400000000
theorem turned_mono {a b : Int} (h : a ≤ b) : turned a ≤ turned b := by
  unfold turned
  have h1 := Int.ediv_le_ediv (show (0 : Int) < 240 by omega) h
  have h2 := Int.ediv_le_ediv (show (0 : Int) < 86400000000 by omega) (show a * 985647 ≤ b * 985647 by omega)
  exact Int.add_le_add h1 h2
theorem turned_step (a : Int) : turned (a + 1) ≤ turned a + 2 := by
  unfold turned
  have h1 : (a + 1) / 240 ≤ a / 240 + 1 := by omega
  have h2 : (a + 1) * 985647 / 86400000000 ≤ a * 985647 / 86400000000 + 1 := by omega
  omega
theorem turned_bd {t : Int} (h0 : 0 ≤ t) (h1 : t ≤ 9000000000000) : 0 ≤ turned t ∧ turned t ≤ 37602671562 := by
  have a := turned_mono h0
  have b := turned_mono h1
  have c : turned 0 = 0 := by decide
  have d : turned 9000000000000 = 37602671562 := by decide
  omega
/-- A day on: the sky has turned round at least once. -/
theorem turned_day {t : Int} : turned t + 360000 ≤ turned (t + 86400000) := by
  unfold turned
  have h1 : (t + 86400000) / 240 = t / 240 + 360000 := by omega
  have h2 : t * 985647 / 86400000000 ≤ (t + 86400000) * 985647 / 86400000000 := Int.ediv_le_ediv (by omega) (by omega)
  omega
/-- Year, month and day of a day, 0 to 99999 (else nought). -/
noncomputable def dY (D : Int) : Int := if inB D 0 99999 then (Classical.epsilon fun x : Int × Int × Int => IsDate D x.1 x.2.1 x.2.2).1 else 0
noncomputable def dM (D : Int) : Int := if inB D 0 99999 then (Classical.epsilon fun x : Int × Int × Int => IsDate D x.1 x.2.1 x.2.2).2.1 else 0
noncomputable def dD (D : Int) : Int := if inB D 0 99999 then (Classical.epsilon fun x : Int × Int × Int => IsDate D x.1 x.2.1 x.2.2).2.2 else 0
def dC (D : Int) : Int := if inB D 0 99999 then 0 else 2
theorem date_no {D : Int} (h : inB D 0 99999 = false) : dY D = 0 ∧ dM D = 0 ∧ dD D = 0 ∧ dC D = 2 := by simp [dY, dM, dD, dC, h]
theorem date_eq {D y m d : Int} (h : inB D 0 99999 = true) (hd : IsDate D y m d) : dY D = y ∧ dM D = m ∧ dD D = d ∧ dC D = 0 := by
  have he : IsDate D (Classical.epsilon fun x : Int × Int × Int => IsDate D x.1 x.2.1 x.2.2).1 (Classical.epsilon fun x : Int × Int × Int => IsDate D x.1 x.2.1 x.2.2).2.1 (Classical.epsilon fun x : Int × Int × Int => IsDate D x.1 x.2.1 x.2.2).2.2 :=
    Classical.epsilon_spec (p := fun x : Int × Int × Int => IsDate D x.1 x.2.1 x.2.2) ⟨(y, m, d), hd⟩
  have hu := he.unique hd
  unfold dY dM dD dC
  rw [h]
  exact ⟨hu.1, hu.2.1, hu.2.2, rfl⟩
/-- The days of a month; the day of a date; with the error's code. -/
def dinB (y m : Int) : Bool := inB y 2000 2273 && inB m 1 12
def dinA (y m : Int) : Int := if dinB y m then mlen y m else 0
def dinC (y m : Int) : Int := if dinB y m then 0 else 2
def dnum (y m d : Int) : Int := d - 1 + dby y + cum y m
def dayB (y m d : Int) : Bool := dinB y m && inB d 1 (mlen y m)
def dayA (y m d : Int) : Int := if dayB y m d && inB (dnum y m d) 0 99999 then dnum y m d else 0
def dayC (y m d : Int) : Int := if dayB y m d && inB (dnum y m d) 0 99999 then 0 else 2
/-- Moments: all milliseconds; the moment after some. -/
def allOf (d m : Int) : Int := d * 86400000 + m
def mafC (d m s : Int) : Int := if okM d m then (if inB s (-8640000000000) 8640000000000 then (if inB (allOf d m + s) 0 8639999999999 then 0 else 6) else 2) else 1
def mafD (d m s : Int) : Int := if mafC d m s = 0 then (allOf d m + s) / 86400000 else 0
def mafM (d m s : Int) : Int := if mafC d m s = 0 then (allOf d m + s) % 86400000 else 0
def mibA (d m e n : Int) : Int := if okM d m && okM e n then allOf e n - allOf d m else 0
def mibC (d m e n : Int) : Int := if okM d m && okM e n then 0 else 1
def sidA (d m l : Int) : Int := if okM d m && inB l 0 359999 then (99968 + l + turned (allOf d m)) % 360000 else 0
def sidC (d m l : Int) : Int := if okM d m then (if inB l 0 359999 then 0 else 2) else 1
/-- The first time from s on at which the sky has turned by g. -/
def IsNext (s g t : Int) : Prop := s ≤ t ∧ g ≤ turned t ∧ ∀ u, s ≤ u → u < t → turned u < g
theorem IsNext.unique {s g t u : Int} (h : IsNext s g t) (k : IsNext s g u) : t = u := by
  rcases Int.lt_trichotomy t u with c | c | c
  · have := k.2.2 t h.1 c; have := h.2.1; omega
  · exact c
  · have := h.2.2 u k.1 c; have := k.2.1; omega
noncomputable def nxt (s g : Int) : Int := Classical.epsilon fun t => IsNext s g t
theorem nxt_eq {s g t : Int} (h : IsNext s g t) : nxt s g = t := (Classical.epsilon_spec (p := fun t => IsNext s g t) ⟨t, h⟩).unique h
noncomputable def nsT (d m l a : Int) : Int := nxt (allOf d m) (turned (allOf d m) + (a - (99968 + l + turned (allOf d m))) % 360000)
noncomputable def nsC (d m l a : Int) : Int := if okM d m then (if inB l 0 359999 && inB a 0 359999 then (if nsT d m l a < 8640000000000 then 0 else 6) else 2) else 1
noncomputable def nsD (d m l a : Int) : Int := if nsC d m l a = 0 then nsT d m l a / 86400000 else 0
noncomputable def nsM (d m l a : Int) : Int := if nsC d m l a = 0 then nsT d m l a % 86400000 else 0
def NotYet (s p g : Int) : Prop := ∀ u, s ≤ u → u < p → turned u < g
theorem NotYet.start (s g : Int) : NotYet s s g := fun u h k => by omega
theorem NotYet.step {s p m g : Int} (h : NotYet s p g) (hm : turned m < g) : NotYet s (m + 1) g := fun u h1 h2 => by
  have := turned_mono (show u ≤ m by omega); omega
theorem NotYet.isNext {s p g : Int} (h : NotYet s p g) (h0 : s ≤ p) (hg : g ≤ turned p) : IsNext s g p := ⟨h0, hg, h⟩
theorem ns_out {d m l a t : Int} (c1 : okM d m = true) (c2 : inB l 0 359999 = true) (c3 : inB a 0 359999 = true) (h : IsNext (allOf d m) (turned (allOf d m) + (a - (99968 + l + turned (allOf d m))) % 360000) t) :
    nsD d m l a = (if t < 8640000000000 then t / 86400000 else 0) ∧ nsM d m l a = (if t < 8640000000000 then t % 86400000 else 0) ∧ nsC d m l a = (if t < 8640000000000 then 0 else 6) := by
  have e : nsT d m l a = t := nxt_eq h
  have e2 : nsC d m l a = (if t < 8640000000000 then 0 else 6) := by unfold nsC; rw [c1, c2, c3, e]; rfl
  unfold nsD nsM
  rw [e2, e]
  by_cases g : t < 8640000000000 <;> simp [g]
end Go.Proofs.YtmkmhljiajgibaaGreatDoor
