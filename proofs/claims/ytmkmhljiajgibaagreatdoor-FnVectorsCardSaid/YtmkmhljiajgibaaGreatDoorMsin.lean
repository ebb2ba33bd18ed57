/-
  The sines of whole degrees, and the sine between them: plain integers, no program in sight.
-/
import Derived.Test.YtmkmhljiajgibaaGreatDoorMnum
namespace Go.Proofs.YtmkmhljiajgibaaGreatDoor
set_option linter.unusedVariables false
set_option linter.unusedSimpArgs false
def sinT : List Int := [0, 17452, 34899, 52336, 69756, 87156, 104528, 121869, 139173, 156434, 173648, 190809, 207912, 224951, 241922, 258819, 275637, 292372, 309017, 325568, 342020, 358368, 374607, 390731, 406737, 422618, 438371, 453990, 469472, 484810, 500000, 515038, 529919, 544639, 559193, 573576, 587785, 601815, 615661, 629320, 642788, 656059, 669131, 681998, 694658, 707107, 719340, 731354, 743145, 754710, 766044, 777146, 788011, 798636, 809017, 819152, 829038, 838671, 848048, 857167, 866025, 874620, 882948, 891007, 898794, 906308, 913545, 920505, 927184, 933580, 939693, 945519, 951057, 956305, 961262, 965926, 970296, 974370, 978148, 981627, 984808, 987688, 990268, 992546, 994522, 996195, 997564, 998630, 999391, 999848, 1000000]
def tab (k : Nat) : Int := sinT.getD k 0
theorem tab_step : ∀ k < 90, tab k ≤ tab (k + 1) := by decide +kernel
theorem tab_step2 : ∀ k < 90, tab (k + 1) ≤ tab k + 17452 := by decide +kernel
theorem tab_bd : ∀ k < 91, 0 ≤ tab k ∧ tab k ≤ 1000000 := by decide +kernel
/-- The sine of m thousandths of a degree, 0 to 90000. -/
def sinQ (m : Nat) : Int := tab (m / 1000) + ((tab (m / 1000 + 1) - tab (m / 1000)) * (m % 1000 : Nat) * 2 + 1000) / 2000
theorem sinQ_bd (m : Nat) (h : m ≤ 90000) : 0 ≤ sinQ m ∧ sinQ m ≤ 1000000 := by
  unfold sinQ
  have hb := tab_bd (m / 1000) (by omega)
  by_cases hk : m / 1000 < 90
  · have h1 := tab_step _ hk
    have hb1 := tab_bd (m / 1000 + 1) (by omega)
    have hd : m % 1000 < 1000 := Nat.mod_lt _ (by omega)
    generalize tab (m / 1000) = a at *
    generalize tab (m / 1000 + 1) = b at *
    generalize m % 1000 = d at *
    have h2 : 0 ≤ (b - a) * (d : Int) := Int.mul_nonneg (by omega) (by omega)
    have h3 : (b - a) * (d : Int) ≤ (b - a) * 999 := Int.mul_le_mul_of_nonneg_left (by omega) (by omega)
    omega
  · have : m = 90000 := by omega
    subst this
    decide
theorem sinQ_mono1 (m : Nat) (h : m < 90000) : sinQ m ≤ sinQ (m + 1) := by
  unfold sinQ
  have hk : m / 1000 < 90 := by omega
  have h1 := tab_step _ hk
  by_cases hd : m % 1000 = 999
  · have e1 : (m + 1) / 1000 = m / 1000 + 1 := by omega
    have e2 : (m + 1) % 1000 = 0 := by omega
    rw [e1, e2, hd]
    generalize tab (m / 1000) = a at *
    generalize tab (m / 1000 + 1) = b at *
    omega
  · have e1 : (m + 1) / 1000 = m / 1000 := by omega
    have e2 : (m + 1) % 1000 = m % 1000 + 1 := by omega
    rw [e1, e2]
    generalize tab (m / 1000) = a at *
    generalize tab (m / 1000 + 1) = b at *
    generalize m % 1000 = d at *
    have h2 : (b - a) * ((d + 1 : Nat) : Int) = (b - a) * (d : Int) + (b - a) := by rw [Int.natCast_add, Int.mul_add]; simp
    rw [h2]
    omega
theorem sinQ_mono {m n : Nat} (h : m ≤ n) (hn : n ≤ 90000) : sinQ m ≤ sinQ n := by
  induction h with
  | refl => omega
  | @step k _ ih =>
    have h1 := sinQ_mono1 k (by omega)
    have h2 := ih (by omega)
    show sinQ m ≤ sinQ (k + 1)
    omega
/-- The sine of the half turn, of the turn, of any angle; the cosine. -/
def sinH (m : Nat) : Int := if m ≤ 90000 then sinQ m else sinQ (180000 - m)
def sinF (m : Nat) : Int := if m < 180000 then sinH m else -sinH (m - 180000)
def sinI (a : Int) : Int := sinF (a % 360000).toNat
def cosI (a : Int) : Int := sinI (a % 360000 + 90000)
theorem sinH_bd (m : Nat) (h : m ≤ 180000) : 0 ≤ sinH m ∧ sinH m ≤ 1000000 := by
  unfold sinH; split <;> exact sinQ_bd _ (by omega)
theorem sinI_bd (a : Int) : -1000000 ≤ sinI a ∧ sinI a ≤ 1000000 := by
  unfold sinI sinF
  have h : (a % 360000).toNat < 360000 := by omega
  split
  · have := sinH_bd _ (show (a % 360000).toNat ≤ 180000 by omega); omega
  · have := sinH_bd _ (show (a % 360000).toNat - 180000 ≤ 180000 by omega); omega
theorem cosI_bd (a : Int) : -1000000 ≤ cosI a ∧ cosI a ≤ 1000000 := sinI_bd _
theorem sinI_mod (a : Int) : sinI (a % 360000) = sinI a := by unfold sinI; rw [Int.emod_emod]
theorem cosI_mod (a : Int) : cosI (a % 360000) = cosI a := by unfold cosI; rw [Int.emod_emod]
theorem sinQ_div {p k d : Nat} (hk : p / 1000 = k) (hd : p % 1000 = d) (h : k < 90) : sinQ p = tab k + divR ((tab (k + 1) - tab k) * d) 1000 := by
  have hs := tab_step k h
  unfold sinQ
  rw [hk, hd, divR_nonneg (Int.mul_nonneg (by omega) (by omega)) (by omega)]
  unfold qr
  congr 2
  omega
theorem sinQ_whole {p k : Nat} (hk : p / 1000 = k) (hd : p % 1000 = 0) : sinQ p = tab k := by
  unfold sinQ
  rw [hk, hd]
  simp
theorem sinQ_blend {p k : Nat} (hk : p / 1000 = k) (h : k < 90) : blendF (k * 1000) (tab k) ((k + 1) * 1000) (tab (k + 1)) p = sinQ p := by
  have hs := tab_step k h
  rw [sinQ_div hk rfl h]
  unfold blendF
  by_cases c : p % 1000 = 0
  · rw [if_pos (.inl (by omega)), c]
    have e : divR ((tab (k + 1) - tab k) * ((0 : Nat) : Int)) 1000 = 0 := by simp [divR, qr]
    rw [e, Int.add_zero]
  · rw [if_neg (by omega), if_neg (by omega)]
    rw [show ((p : Int) - (k : Int) * 1000) = ((p % 1000 : Nat) : Int) by omega, show (((k : Int) + 1) * 1000 - (k : Int) * 1000) = 1000 by omega]
/-- The sine of an angle of the first or second half turn. -/
theorem sinI_lo {a : Int} {m : Nat} (hm : a % 360000 = m) (h : m < 180000) : sinI a = sinH m := by
  unfold sinI sinF; rw [hm, Int.toNat_natCast, if_pos h]
theorem sinI_hi {a : Int} {m : Nat} (hm : a % 360000 = m) (h : ¬ m < 180000) : sinI a = -sinH (m - 180000) := by
  unfold sinI sinF; rw [hm, Int.toNat_natCast, if_neg h]
theorem tabArr : (sinT.map fun z => Value.int .i64 z).toArray[90]? = some (.int .i64 1000000) := rfl
end Go.Proofs.YtmkmhljiajgibaaGreatDoor
