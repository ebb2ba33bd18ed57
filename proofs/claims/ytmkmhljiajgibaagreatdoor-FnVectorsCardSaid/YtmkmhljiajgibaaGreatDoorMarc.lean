/-
  Halving searches, arcs, the sun: plain integers, no program in sight.
-/
import Derived.Test.YtmkmhljiajgibaaGreatDoorMsin
import Derived.Test.YtmkmhljiajgibaaGreatDoorMt
namespace Go.Proofs.YtmkmhljiajgibaaGreatDoor
set_option linter.unusedVariables false
set_option linter.unusedSimpArgs false
/-- The least place from lo on at which p says yes, found by halving. -/
def bsf (p : Int → Bool) : Nat → Int → Int → Int
  | 0, lo, _ => lo
  | n + 1, lo, hi => if lo < hi then (if p ((lo + hi) / 2) = true then bsf p n lo ((lo + hi) / 2) else bsf p n ((lo + hi) / 2 + 1) hi) else lo
def bs (p : Int → Bool) (lo hi : Int) : Int := bsf p (hi - lo).toNat lo hi
theorem bsf_fuel (p : Int → Bool) : ∀ (n m : Nat) (lo hi : Int), (hi - lo).toNat ≤ n → (hi - lo).toNat ≤ m → bsf p n lo hi = bsf p m lo hi := by
  intro n
  induction n with
  | zero =>
    intro m lo hi h1 h2
    cases m with
    | zero => rfl
    | succ m => unfold bsf; rw [if_neg (by omega)]
  | succ n ih =>
    intro m lo hi h1 h2
    cases m with
    | zero => unfold bsf; rw [if_neg (by omega)]
    | succ m =>
      unfold bsf
      by_cases h : lo < hi
      · rw [if_pos h, if_pos h]
        split
        · exact ih m _ _ (by omega) (by omega)
        · exact ih m _ _ (by omega) (by omega)
      · rw [if_neg h, if_neg h]
theorem bs_end {p : Int → Bool} {lo hi : Int} (h : ¬ lo < hi) : bs p lo hi = lo := by
  unfold bs
  rw [bsf_fuel p _ 1 lo hi (Nat.le_refl _) (by omega)]
  unfold bsf
  rw [if_neg h]
theorem bs_yes {p : Int → Bool} {lo hi : Int} (h : lo < hi) (hp : p ((lo + hi) / 2) = true) : bs p lo hi = bs p lo ((lo + hi) / 2) := by
  unfold bs
  rw [bsf_fuel p (hi - lo).toNat (((lo + hi) / 2 - lo).toNat + (hi - lo).toNat + 1) lo hi (Nat.le_refl _) (by omega)]
  rw [show bsf p (((lo + hi) / 2 - lo).toNat + (hi - lo).toNat + 1) lo hi = bsf p (((lo + hi) / 2 - lo).toNat + (hi - lo).toNat) lo ((lo + hi) / 2) by conv => lhs; unfold bsf; rw [if_pos h, if_pos hp]]
  exact bsf_fuel p _ _ _ _ (by omega) (Nat.le_refl _)
theorem bs_no {p : Int → Bool} {lo hi : Int} (h : lo < hi) (hp : ¬ p ((lo + hi) / 2) = true) : bs p lo hi = bs p ((lo + hi) / 2 + 1) hi := by
  unfold bs
  rw [bsf_fuel p (hi - lo).toNat ((hi - lo).toNat + (hi - lo).toNat + 1) lo hi (Nat.le_refl _) (by omega)]
  rw [show bsf p ((hi - lo).toNat + (hi - lo).toNat + 1) lo hi = bsf p ((hi - lo).toNat + (hi - lo).toNat) ((lo + hi) / 2 + 1) hi by conv => lhs; unfold bsf; rw [if_pos h, if_neg hp]]
  exact bsf_fuel p _ _ _ _ (by omega) (Nat.le_refl _)
theorem bs_spec {p : Int → Bool} : ∀ (n : Nat) (lo hi : Int), (hi - lo).toNat ≤ n → lo ≤ hi → lo ≤ bs p lo hi ∧ bs p lo hi ≤ hi ∧ (bs p lo hi = hi ∨ p (bs p lo hi) = true) ∧ (bs p lo hi = lo ∨ p (bs p lo hi - 1) = false) := by
  intro n
  induction n with
  | zero =>
    intro lo hi h1 h2
    rw [bs_end (by omega)]
    exact ⟨by omega, by omega, .inl (by omega), .inl rfl⟩
  | succ n ih =>
    intro lo hi h1 h2
    by_cases h : lo < hi
    · by_cases hp : p ((lo + hi) / 2) = true
      · rw [bs_yes h hp]
        obtain ⟨a, b, c, d⟩ := ih lo ((lo + hi) / 2) (by omega) (by omega)
        refine ⟨a, by omega, ?_, d⟩
        rcases c with c | c
        · rw [c]; exact .inr hp
        · exact .inr c
      · rw [bs_no h hp]
        obtain ⟨a, b, c, d⟩ := ih ((lo + hi) / 2 + 1) hi (by omega) (by omega)
        refine ⟨by omega, b, c, ?_⟩
        rcases d with d | d
        · rw [d]; right; rw [show (lo + hi) / 2 + 1 - 1 = (lo + hi) / 2 by omega]; simpa using hp
        · exact .inr d
    · rw [bs_end h]
      exact ⟨by omega, by omega, .inl (by omega), .inl rfl⟩
/-- The angle with a sine, with a cosine, of a direction; with the error's code. -/
def asnP (v : Int) (m : Int) : Bool := decide (v ≤ sinI m)
def acsP (v : Int) (m : Int) : Bool := decide (cosI m ≤ v)
def atnP (u v : Int) (m : Int) : Bool := decide (cosI m * u ≤ sinI m * v)
def asnA (v : Int) : Int := if inB v (-1000000) 1000000 then bs (asnP v) (-90000) 90000 else 0
def acsA (v : Int) : Int := if inB v (-1000000) 1000000 then bs (acsP v) 0 180000 else 0
def unitC (v : Int) : Int := if inB v (-1000000) 1000000 then 0 else 2
def arcLow (u v : Int) : Int := bs (atnP u v) 0 45000
theorem arcLow_bd (u v : Int) : 0 ≤ arcLow u v ∧ arcLow u v ≤ 45000 := by
  have h := bs_spec (p := atnP u v) 45000 0 45000 (by omega) (by omega)
  exact ⟨h.1, h.2.1⟩
def arcB (y x : Int) : Int := if ab x < ab y then 90000 - arcLow (ab x) (ab y) else arcLow (ab y) (ab x)
theorem arcB_bd (y x : Int) : 0 ≤ arcB y x ∧ arcB y x ≤ 90000 := by
  unfold arcB
  split
  · have := arcLow_bd (ab x) (ab y); omega
  · have := arcLow_bd (ab y) (ab x); omega
def arcF (y x : Int) : Int := if 0 ≤ x ∧ 0 ≤ y then arcB y x else if 0 ≤ y then 180000 - arcB y x else if x < 0 then 180000 + arcB y x else (-arcB y x) % 360000
theorem arcF_bd (y x : Int) : 0 ≤ arcF y x ∧ arcF y x < 360000 := by
  have := arcB_bd y x
  unfold arcF
  split
  · omega
  · split
    · omega
    · split <;> omega
def atB (y x : Int) : Bool := inB x (-1000000000000) 1000000000000 && inB y (-1000000000000) 1000000000000
def atA (y x : Int) : Int := if atB y x then (if x == 0 && y == 0 then 0 else arcF y x) else 0
def atC (y x : Int) : Int := if atB y x then (if x == 0 && y == 0 then 6 else 0) else 2
/-- Where the sun is among the stars. -/
def sunF (t : Int) : Int := (279967 + t * 985647 / 86400000000 + (divR (1915 * sinI (357035 + t * 985600 / 86400000000)) 1000000 + divR (20 * sinI (2 * (357035 + t * 985600 / 86400000000))) 1000000)) % 360000
def sunA (d m : Int) : Int := if okM d m then sunF (allOf d m) else 0
def seaA (d m : Int) : Int := if okM d m then sunF (allOf d m) / 90000 + 1 else 0
def okC (d m : Int) : Int := if okM d m then 0 else 1
theorem sunF_bd (t : Int) : 0 ≤ sunF t ∧ sunF t < 360000 := by unfold sunF; omega
theorem sinI_two (a : Int) : sinI (2 * (a % 360000)) = sinI (2 * a) := by unfold sinI; congr 2; omega
theorem dvr_eq {a b : Int} (hb : b ≠ 0) (h1 : -1000000000000 ≤ a) (h2 : a ≤ 1000000000000) (h3 : -1000000000000 ≤ b) (h4 : b ≤ 1000000000000) : dvr a b = divR a b := by
  unfold dvr
  rw [inB_mk ⟨h1, h2⟩, inB_mk ⟨h3, h4⟩]
  simp [hb]
end Go.Proofs.YtmkmhljiajgibaaGreatDoor
