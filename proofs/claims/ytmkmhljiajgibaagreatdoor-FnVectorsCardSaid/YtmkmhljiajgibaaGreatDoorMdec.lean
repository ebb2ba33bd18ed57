/-
  Decimal numerals: plain lists of bytes, no program in sight.
-/
import Derived.Test.YtmkmhljiajgibaaGreatDoorMa
import Derived.Lib.ItoaNum
import Derived.Lib.ParseIntBCases
namespace Go.Proofs.YtmkmhljiajgibaaGreatDoor
set_option linter.unusedVariables false
set_option linter.unusedSimpArgs false
open Go.Lib (decDigits itoa parseUintM parseUintB parseIntB)
def isDg (c : UInt8) : Prop := 48 ≤ c.toNat ∧ c.toNat ≤ 57
/-- The number that digits spell, behind others. -/
def dva (a : Nat) (l : List UInt8) : Nat := l.foldl (fun n c => n * 10 + (c.toNat - 48)) a
theorem dva_nil (a : Nat) : dva a [] = a := by unfold dva; rw [List.foldl_nil]
theorem dva_cons (a : Nat) (c : UInt8) (l : List UInt8) : dva a (c :: l) = dva (a * 10 + (c.toNat - 48)) l := by unfold dva; rw [List.foldl_cons]
theorem dva_snoc (a : Nat) (l : List UInt8) (c : UInt8) : dva a (l ++ [c]) = dva a l * 10 + (c.toNat - 48) := by simp [dva]
theorem dva_app (a : Nat) (l r : List UInt8) : dva a (l ++ r) = dva (dva a l) r := by simp [dva]
theorem dva_le (l : List UInt8) : ∀ a, a ≤ dva a l := by
  induction l with
  | nil => intro a; exact Nat.le_refl a
  | cons c l ih => intro a; rw [dva_cons]; exact Nat.le_trans (by omega) (ih _)
theorem dva_lt (l : List UInt8) (h : ∀ c ∈ l, isDg c) : ∀ a k, a < k → dva a l < k * 10 ^ l.length := by
  induction l with
  | nil => intro a k hk; simpa [dva] using hk
  | cons c l ih =>
    intro a k hk
    have hc := h c (by simp)
    unfold isDg at hc
    rw [dva_cons]
    have := ih (fun x hx => h x (by simp [hx])) (a * 10 + (c.toNat - 48)) (k * 10) (by omega)
    rw [List.length_cons, Nat.pow_succ, Nat.mul_comm (10 ^ l.length) 10, ← Nat.mul_assoc]
    exact this
theorem ofNat_dg {d : Nat} (h : d < 10) : (UInt8.ofNat (48 + d)).toNat = 48 + d := by
  rw [UInt8.toNat_ofNat']; omega
theorem dg_ofNat {c : UInt8} (h : isDg c) : UInt8.ofNat (48 + (c.toNat - 48)) = c := by
  unfold isDg at h
  apply UInt8.toNat_inj.1
  rw [ofNat_dg (by omega)]; omega
theorem dd_small {u : Nat} (h : u < 10) : decDigits u = [UInt8.ofNat (48 + u)] := Lib.decDigits_one h
theorem dd_big {u : Nat} (h : ¬ u < 10) : decDigits u = decDigits (u / 10) ++ [UInt8.ofNat (48 + u % 10)] := by rw [decDigits, dif_neg h]
theorem dd_ne (u : Nat) : decDigits u ≠ [] := by
  by_cases h : u < 10
  · rw [dd_small h]; simp
  · rw [dd_big h]; simp
theorem dd_dig (u : Nat) : ∀ c ∈ decDigits u, isDg c := by
  induction u using Nat.strongRecOn with
  | _ u ih =>
    by_cases h : u < 10
    · rw [dd_small h]
      intro c hc
      simp only [List.mem_singleton] at hc
      subst hc
      unfold isDg
      rw [ofNat_dg h]; omega
    · rw [dd_big h]
      intro c hc
      rcases List.mem_append.1 hc with hc | hc
      · exact ih (u / 10) (by omega) c hc
      · simp only [List.mem_singleton] at hc
        subst hc
        unfold isDg
        rw [ofNat_dg (by omega)]; omega
theorem dva_dd (u : Nat) : dva 0 (decDigits u) = u := by
  induction u using Nat.strongRecOn with
  | _ u ih =>
    by_cases h : u < 10
    · rw [dd_small h, dva_cons, dva_nil, ofNat_dg h]; omega
    · rw [dd_big h, dva_snoc, ih (u / 10) (by omega), ofNat_dg (by omega)]; omega
theorem dd_head {u : Nat} (h : u ≠ 0) : ∃ c r, decDigits u = c :: r ∧ c.toNat ≠ 48 := by
  induction u using Nat.strongRecOn with
  | _ u ih =>
    by_cases g : u < 10
    · exact ⟨_, [], dd_small g, by rw [ofNat_dg g]; omega⟩
    · obtain ⟨c, r, e, hc⟩ := ih (u / 10) (by omega) (by omega)
      exact ⟨c, r ++ [UInt8.ofNat (48 + u % 10)], by rw [dd_big g, e]; rfl, hc⟩
theorem snoc_cases (l : List UInt8) : l = [] ∨ ∃ i c, l = i ++ [c] := by
  rcases List.eq_nil_or_concat l with h | ⟨i, c, h⟩
  · exact .inl h
  · exact .inr ⟨i, c, by simpa using h⟩
/-- Digits without a needless nought are the numeral of the number that they spell. -/
theorem dd_dva : ∀ (k : Nat) (l : List UInt8), l.length ≤ k → l ≠ [] → (∀ c ∈ l, isDg c) → (l.length = 1 ∨ ∃ c r, l = c :: r ∧ c.toNat ≠ 48) → decDigits (dva 0 l) = l
  | 0, l, hk, hn, _, _ => absurd (List.length_eq_zero_iff.1 (by omega)) hn
  | k + 1, l, hk, hn, hd, hh => by
    rcases snoc_cases l with rfl | ⟨i, c, rfl⟩
    · exact absurd rfl hn
    · have hc : isDg c := hd c (by simp)
      have hc2 := hc
      unfold isDg at hc2
      by_cases hi : i = []
      · subst hi
        rw [List.nil_append, dva_cons, dva_nil, dd_small (by omega), show 48 + (0 * 10 + (c.toNat - 48)) = 48 + (c.toNat - 48) by omega, dg_ofNat hc]
      · have hhd : ∃ a r, i = a :: r ∧ a.toNat ≠ 48 := by
          rcases hh with h1 | ⟨a, r, e, ha⟩
          · simp at h1; exact absurd h1 hi
          · cases i with
            | nil => exact absurd rfl hi
            | cons b i' =>
              simp only [List.cons_append, List.cons.injEq] at e
              exact ⟨b, i', rfl, by rw [e.1]; exact ha⟩
        have ih := dd_dva k i (by simp at hk; omega) hi (fun x hx => hd x (by simp [hx])) (.inr hhd)
        rw [dva_snoc]
        have h0 : dva 0 i ≠ 0 := by
          intro e
          rw [e] at ih
          obtain ⟨a, r, e1, e2⟩ := hhd
          rw [dd_small (by omega)] at ih
          rw [e1] at ih
          simp only [List.cons.injEq] at ih
          exact e2 (by rw [← ih.1]; decide)
        rw [dd_big (by omega), show (dva 0 i * 10 + (c.toNat - 48)) / 10 = dva 0 i by omega, show (dva 0 i * 10 + (c.toNat - 48)) % 10 = c.toNat - 48 by omega, ih, dg_ofNat hc]
/-- The numeral's parse. -/
theorem parseU_ok (M : Nat) (hM : M ≤ 18446744073709551615) : ∀ (l : List UInt8) (a : Nat), (∀ c ∈ l, isDg c) → dva a l ≤ M → parseUintM M a l = .ok (dva a l)
  | [], a, _, _ => rfl
  | c :: l, a, hd, hv => by
    have hc := hd c (by simp)
    unfold isDg at hc
    rw [dva_cons] at hv ⊢
    have h1 := dva_le l (a * 10 + (c.toNat - 48))
    unfold parseUintM
    rw [if_pos hc, if_neg (by omega), if_neg (by omega)]
    exact parseU_ok M hM l _ (fun x hx => hd x (by simp [hx])) hv
theorem parseU_digits (M : Nat) : ∀ (l : List UInt8) (a u : Nat), parseUintM M a l = .ok u → (∀ c ∈ l, isDg c) ∧ dva a l = u
  | [], a, u, h => by
    simp only [parseUintM] at h
    injection h with h
    exact ⟨by simp, h⟩
  | c :: l, a, u, h => by
    simp only [parseUintM] at h
    split at h
    · rename_i hc
      split at h
      · cases h
      · split at h
        · cases h
        · obtain ⟨h1, h2⟩ := parseU_digits M l _ u h
          refine ⟨?_, h2⟩
          intro x hx
          rcases List.mem_cons.1 hx with rfl | hx
          · exact hc
          · exact h1 x hx
    · cases h
theorem parseUB_ok {B : Nat} (hB : 2 ^ B - 1 ≤ 18446744073709551615) {l : List UInt8} (hn : l ≠ []) (hd : ∀ c ∈ l, isDg c) (hv : dva 0 l ≤ 2 ^ B - 1) : parseUintB B l = .ok (dva 0 l) := by
  unfold parseUintB
  rw [if_neg hn]
  exact parseU_ok _ hB l 0 hd hv
theorem parseUB_digits {B : Nat} {l : List UInt8} {u : Nat} (h : parseUintB B l = .ok u) : l ≠ [] ∧ (∀ c ∈ l, isDg c) ∧ dva 0 l = u := by
  unfold parseUintB at h
  split at h
  · cases h
  · rename_i hn
    exact ⟨hn, parseU_digits _ l 0 u h⟩
/-- A sign and digits: what they are parsed as. -/
theorem parseI_pos {c : UInt8} {r : List UInt8} (hd : ∀ x ∈ c :: r, isDg x) (hv : dva 0 (c :: r) < 9223372036854775808) : parseIntB 64 (c :: r) = .ok (dva 0 (c :: r) : Int) := by
  have hc := hd c (by simp)
  unfold isDg at hc
  rw [Lib.parseIntB_plain 64 c r (by omega) (by omega), parseUB_ok (by decide) (by simp) hd (by omega)]
  unfold Lib.signlessC
  simp only []
  rw [if_neg (by omega)]
theorem parseI_neg {r : List UInt8} (hn : r ≠ []) (hd : ∀ x ∈ r, isDg x) (hv : dva 0 r ≤ 9223372036854775808) : parseIntB 64 (45 :: r) = .ok (-(dva 0 r : Int)) := by
  rw [Lib.parseIntB_minus, parseUB_ok (by decide) hn hd (by omega)]
  unfold Lib.signedC
  simp only []
  rw [if_neg (by omega)]
theorem itoa_neg {n : Int} (h : n < 0) : itoa n = 45 :: decDigits n.natAbs := by unfold itoa; rw [if_pos h]
theorem itoa_pos {n : Int} (h : 0 ≤ n) : itoa n = decDigits n.natAbs := by unfold itoa; rw [if_neg (by omega)]; congr 1; omega
theorem parse_itoa {n : Int} (h1 : -9223372036854775808 ≤ n) (h2 : n ≤ 9223372036854775807) : parseIntB 64 (itoa n) = .ok n := by
  by_cases h : n < 0
  · rw [itoa_neg h, parseI_neg (dd_ne _) (dd_dig _) (by rw [dva_dd]; omega), dva_dd]
    congr 1; omega
  · rw [itoa_pos (by omega)]
    have hd := dd_dig n.natAbs
    have hv := dva_dd n.natAbs
    have hne := dd_ne n.natAbs
    generalize decDigits n.natAbs = l at *
    cases l with
    | nil => exact absurd rfl hne
    | cons c r => rw [parseI_pos hd (by omega), hv]; congr 1; omega
theorem itoa_inj {n m : Int} (n1 : -9223372036854775808 ≤ n) (n2 : n ≤ 9223372036854775807) (m1 : -9223372036854775808 ≤ m) (m2 : m ≤ 9223372036854775807) (h : itoa n = itoa m) : n = m := by
  have a := parse_itoa n1 n2
  rw [h, parse_itoa m1 m2] at a
  injection a with a
  exact a.symm
theorem dd_len_lt {u k : Nat} (h : u < 10 ^ k) (hk : 1 ≤ k) : (decDigits u).length ≤ k := by
  rw [Lib.decDigits_length]
  rcases Nat.lt_or_ge k (Lib.nDigits u) with g | g
  · exfalso
    obtain ⟨j, hj⟩ : ∃ j, Lib.nDigits u = j + 1 := ⟨Lib.nDigits u - 1, by have := Lib.nDigits_pos u; omega⟩
    have h1 : 10 ^ j ≤ u := by
      have key : ∀ (m u : Nat), Lib.nDigits u = m + 2 → 10 ^ (m + 1) ≤ u := by
        intro m
        induction m with
        | zero => intro u hu; by_cases g : u < 10
                  · rw [Lib.nDigits_small g] at hu; omega
                  · simpa using (by omega : 10 ≤ u)
        | succ m ih => intro u hu; by_cases g : u < 10
                       · rw [Lib.nDigits_small g] at hu; omega
                       · rw [Lib.nDigits_big g] at hu
                         have := ih (u / 10) (by omega)
                         rw [Nat.pow_succ]; omega
      obtain ⟨m, hm⟩ : ∃ m, j = m + 1 := ⟨j - 1, by omega⟩
      rw [hm]; exact key m u (by omega)
    have h2 : 10 ^ k ≤ 10 ^ j := Nat.pow_le_pow_right (by omega) (by omega)
    omega
  · exact g
/-- A number with a decimal form of at most 18 digits. -/
def IsNum (l : List UInt8) (n : Int) : Prop := itoa n = l ∧ -1000000000000000000 < n ∧ n < 1000000000000000000
theorem IsNum.unique {l : List UInt8} {n m : Int} (h : IsNum l n) (k : IsNum l m) : n = m :=
  itoa_inj (by have := h.2; omega) (by have := h.2; omega) (by have := k.2; omega) (by have := k.2; omega) (h.1.trans k.1.symm)
noncomputable def rdB (l : List UInt8) : Bool := @decide (∃ n, IsNum l n) (Classical.propDecidable _)
noncomputable def rdV (l : List UInt8) : Int := @ite _ (∃ n, IsNum l n) (Classical.propDecidable _) (Classical.epsilon fun n => IsNum l n) 0
theorem rd_yes {l : List UInt8} {n : Int} (h : IsNum l n) : rdB l = true ∧ rdV l = n := by
  have hex : ∃ n, IsNum l n := ⟨n, h⟩
  unfold rdB rdV
  refine ⟨@decide_eq_true _ (Classical.propDecidable _) hex, ?_⟩
  rw [if_pos hex]
  exact (Classical.epsilon_spec hex).unique h
theorem rd_no {l : List UInt8} (h : ¬ ∃ n, IsNum l n) : rdB l = false ∧ rdV l = 0 := by
  unfold rdB rdV
  exact ⟨@decide_eq_false _ (Classical.propDecidable _) h, if_neg h⟩
/-- The digits behind the sign. -/
def behind (l : List UInt8) : List UInt8 := if l.head? = some 45 then l.drop 1 else l
theorem isNum_behind {l : List UInt8} {n : Int} (h : IsNum l n) : 1 ≤ (behind l).length ∧ (behind l).length ≤ 18 ∧ (∀ c ∈ behind l, isDg c) ∧ (n = if l.head? = some 45 then -(dva 0 (behind l) : Int) else dva 0 (behind l)) ∧ ((behind l).length = 1 ∨ ∃ c r, behind l = c :: r ∧ c.toNat ≠ 48) ∧ (l.length = 1 ∨ ∃ c r, behind l = c :: r ∧ c.toNat ≠ 48) := by
  obtain ⟨rfl, h1, h2⟩ := h
  by_cases hn : n < 0
  · have e : behind (itoa n) = decDigits n.natAbs := by rw [itoa_neg hn]; rfl
    have hh : (itoa n).head? = some 45 := by rw [itoa_neg hn]; rfl
    rw [e, hh, if_pos rfl, dva_dd]
    refine ⟨by rw [Lib.decDigits_length]; exact Lib.nDigits_pos _, dd_len_lt (by omega) (by omega), dd_dig _, by omega, .inr (dd_head (by omega)), .inr (dd_head (by omega))⟩
  · have hp := itoa_pos (show 0 ≤ n by omega)
    have hd := dd_dig n.natAbs
    have hh : (itoa n).head? ≠ some 45 := by
      rw [hp]
      have hne := dd_ne n.natAbs
      generalize decDigits n.natAbs = l at *
      cases l with
      | nil => exact absurd rfl hne
      | cons c r =>
        intro e
        simp only [List.head?_cons, Option.some.injEq] at e
        have := hd c (by simp)
        subst e
        unfold isDg at this
        exact absurd this.1 (by decide)
    have e : behind (itoa n) = decDigits n.natAbs := by unfold behind; rw [if_neg hh, hp]
    rw [e, if_neg hh, dva_dd, hp]
    refine ⟨by rw [Lib.decDigits_length]; exact Lib.nDigits_pos _, dd_len_lt (by omega) (by omega), hd, by omega, ?_, ?_⟩
    · by_cases h0 : n.natAbs = 0
      · left; rw [h0, dd_small (by omega)]; rfl
      · exact .inr (dd_head h0)
    · by_cases h0 : n.natAbs = 0
      · left; rw [h0, dd_small (by omega)]; rfl
      · exact .inr (dd_head h0)
/-- The other way: what has the form of a number is one. -/
theorem isNum_mk {l : List UInt8} (h1 : 1 ≤ (behind l).length) (h2 : (behind l).length ≤ 18) (h3 : ∀ c ∈ behind l, isDg c) (h4 : l.length = 1 ∨ ∃ c r, behind l = c :: r ∧ c.toNat ≠ 48) : IsNum l (if l.head? = some 45 then -(dva 0 (behind l) : Int) else dva 0 (behind l)) := by
  have hlt := dva_lt (behind l) h3 0 1 (by omega)
  have hp : 10 ^ (behind l).length ≤ 10 ^ 18 := Nat.pow_le_pow_right (by omega) h2
  have e18 : (10 : Nat) ^ 18 = 1000000000000000000 := by decide
  have hne : behind l ≠ [] := by intro e; rw [e] at h1; simp at h1
  have hdd : (behind l).length = 1 ∨ (∃ c r, behind l = c :: r ∧ c.toNat ≠ 48) := by
    rcases h4 with h | h
    · left
      unfold behind at h1 ⊢
      split at h1 <;> simp_all
    · exact .inr h
  have hback := dd_dva _ (behind l) (Nat.le_refl _) hne h3 hdd
  by_cases hm : l.head? = some 45
  · rw [if_pos hm]
    have hl : l = 45 :: behind l := by
      cases l with
      | nil => simp at hm
      | cons c r =>
        simp only [List.head?_cons, Option.some.injEq] at hm
        subst hm
        simp [behind]
    have hpos : dva 0 (behind l) ≠ 0 := by
      intro e
      rcases h4 with h | ⟨c, r, e1, e2⟩
      · rw [hl] at h; simp at h; exact hne h
      · rw [e, dd_small (by omega)] at hback
        rw [e1] at hback
        simp only [List.cons.injEq] at hback
        exact e2 (by rw [← hback.1]; decide)
    refine ⟨?_, by omega, by omega⟩
    rw [itoa_neg (by omega), show (-(dva 0 (behind l) : Int)).natAbs = dva 0 (behind l) by omega, hback]
    exact hl.symm
  · rw [if_neg hm]
    have hl : behind l = l := by unfold behind; rw [if_neg hm]
    refine ⟨?_, by omega, by omega⟩
    rw [itoa_pos (by omega), show ((dva 0 (behind l) : Int)).natAbs = dva 0 (behind l) by omega, hback, hl]
end Go.Proofs.YtmkmhljiajgibaaGreatDoor
