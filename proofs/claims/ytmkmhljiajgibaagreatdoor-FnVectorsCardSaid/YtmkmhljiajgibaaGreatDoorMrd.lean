/-
  Reading numerals: plain facts on lists of bytes, no program in sight.
-/
import Derived.Test.YtmkmhljiajgibaaGreatDoorMdec
import Derived.Test.YtmkmhljiajgibaaGreatDoorMstr
import Derived.Lib.Strings
namespace Go.Proofs.YtmkmhljiajgibaaGreatDoor
set_option linter.unusedVariables false
set_option linter.unusedSimpArgs false
open Go.Lib (decDigits itoa parseUintM parseUintB parseIntB)
theorem behind_drop {l : List UInt8} (h : l.head? = some 45) : behind l = l.drop 1 := by unfold behind; rw [if_pos h]
theorem behind_self {l : List UInt8} (h : l.head? ≠ some 45) : behind l = l := by unfold behind; rw [if_neg h]
theorem trim_behind (l : List UInt8) : Lib.trimPrefix l [45] = behind l := by
  cases l with
  | nil => rfl
  | cons c r =>
    by_cases h : c = 45
    · subst h
      rw [behind_drop rfl]
      simp [Lib.trimPrefix, Lib.hasPrefix, List.isPrefixOf]
    · rw [behind_self (by simpa using h)]
      have : ((45 : UInt8) == c) = false := by simp; exact fun e => h e.symm
      simp [Lib.trimPrefix, Lib.hasPrefix, List.isPrefixOf, this]
/-- What is read of the digits from a on, up to k. -/
def Rd (l : List UInt8) (a k : Nat) (N : Int) : Prop := a ≤ k ∧ k ≤ l.length ∧ N = (dva 0 ((l.drop a).take (k - a)) : Nat) ∧ ∀ c ∈ (l.drop a).take (k - a), isDg c
theorem Rd.start (l : List UInt8) {a : Nat} (h : a ≤ l.length) : Rd l a a 0 := by
  refine ⟨Nat.le_refl _, h, ?_, ?_⟩
  · rw [Nat.sub_self, List.take_zero, dva_nil]; rfl
  · rw [Nat.sub_self, List.take_zero]; simp
theorem drop_take_step {l : List UInt8} {a k : Nat} (h : a ≤ k) (hk : k < l.length) : (l.drop a).take (k + 1 - a) = (l.drop a).take (k - a) ++ [l.getD k 0] := by
  rw [show k + 1 - a = (k - a) + 1 by omega, List.take_add_one, List.getElem?_drop, show a + (k - a) = k by omega, List.getElem?_eq_getElem hk]
  simp [List.getD, hk]
theorem Rd.step {l : List UInt8} {a k : Nat} {N c : Int} (h : Rd l a k N) (hk : k < l.length) (e : c = ((l.getD k 0).toNat : Int)) (c1 : 48 ≤ c) (c2 : c ≤ 57) : Rd l a (k + 1) (10 * N + (c - 48)) := by
  obtain ⟨h1, h2, h3, h4⟩ := h
  refine ⟨by omega, by omega, ?_, ?_⟩
  · rw [drop_take_step h1 hk, dva_snoc, h3, e]
    omega
  · rw [drop_take_step h1 hk]
    intro x hx
    rcases List.mem_append.1 hx with hx | hx
    · exact h4 x hx
    · simp only [List.mem_singleton] at hx
      subst hx
      unfold isDg
      omega
theorem Rd.bd {l : List UInt8} {a k : Nat} {N : Int} (h : Rd l a k N) {j : Nat} (hj : k - a ≤ j) : 0 ≤ N ∧ N < (10 ^ j : Nat) := by
  obtain ⟨h1, h2, h3, h4⟩ := h
  have h5 := dva_lt _ h4 0 1 (by omega)
  have h6 : 10 ^ ((l.drop a).take (k - a)).length ≤ 10 ^ j := Nat.pow_le_pow_right (by omega) (by rw [List.length_take]; omega)
  omega
theorem Rd.done {l : List UInt8} {a : Nat} {N : Int} (h : Rd l a l.length N) : N = (dva 0 (l.drop a) : Nat) ∧ ∀ c ∈ l.drop a, isDg c := by
  obtain ⟨h1, h2, h3, h4⟩ := h
  rw [List.take_of_length_le (by rw [List.length_drop]; exact Nat.le_refl _)] at h3 h4
  exact ⟨h3, h4⟩
theorem Rd.bad {l : List UInt8} {a k : Nat} (hk : k < l.length) (h : a ≤ k) {c : Int} (e : c = ((l.getD k 0).toNat : Int)) (hc : ¬ (48 ≤ c ∧ c ≤ 57)) : ∃ x ∈ l.drop a, ¬ isDg x := by
  refine ⟨l.getD k 0, ?_, ?_⟩
  · rw [show l.getD k 0 = l[k] by simp [List.getD, hk]]
    rw [List.mem_iff_getElem]
    exact ⟨k - a, by rw [List.length_drop]; omega, by rw [List.getElem_drop]; congr 1; omega⟩
  · unfold isDg; omega
/-- The head of a text. -/
theorem head_neg {l : List UInt8} (h0 : 0 < l.length) {c : Int} (e : c = ((l.getD 0 0).toNat : Int)) (hc : c = 45) : l.head? = some 45 := by
  cases l with
  | nil => simp at h0
  | cons x r =>
    have : x = 45 := by apply UInt8.toNat_inj.1; simp at e; show x.toNat = 45; omega
    subst this; rfl
theorem head_pos {l : List UInt8} {c : Int} (e : c = ((l.getD 0 0).toNat : Int)) (hc : ¬ c = 45) : l.head? ≠ some 45 := by
  cases l with
  | nil => simp
  | cons x r =>
    intro h
    simp only [List.head?_cons, Option.some.injEq] at h
    subst h
    simp at e
    have : (45 : UInt8).toNat = 45 := rfl
    omega
theorem num_no_dig {l : List UInt8} (h : ∃ x ∈ behind l, ¬ isDg x) : ¬ ∃ n, IsNum l n := by
  rintro ⟨n, hn⟩
  obtain ⟨x, hx, hd⟩ := h
  exact hd ((isNum_behind hn).2.2.1 x hx)
theorem num_no_len {l : List UInt8} (h : (behind l).length < 1 ∨ 18 < (behind l).length) : ¬ ∃ n, IsNum l n := by
  rintro ⟨n, hn⟩
  obtain ⟨a1, a2, -⟩ := isNum_behind hn
  omega
theorem num_no_zero {l r : List UInt8} {x : UInt8} (h : behind l = x :: r) (hx : x.toNat = 48) (hl : l.length ≠ 1) : ¬ ∃ n, IsNum l n := by
  rintro ⟨n, hn⟩
  obtain ⟨-, -, -, -, -, h6⟩ := isNum_behind hn
  rcases h6 with h6 | ⟨c, r', e1, e2⟩
  · exact hl h6
  · rw [h] at e1
    simp only [List.cons.injEq] at e1
    exact e2 (by rw [← e1.1]; exact hx)
theorem num_no_parse {l : List UInt8} (h : ∀ v, parseIntB 64 l ≠ .ok v) : ¬ ∃ n, IsNum l n := by
  rintro ⟨n, rfl, h1, h2⟩
  exact h n (parse_itoa (by omega) (by omega))
theorem num_of_parse {l : List UInt8} {v : Int} (h : parseIntB 64 l = .ok v) (hne : itoa v ≠ l) : ¬ ∃ n, IsNum l n := by
  rintro ⟨n, rfl, h1, h2⟩
  rw [parse_itoa (by omega) (by omega)] at h
  injection h with h
  subst h
  exact hne rfl
theorem num_yes {l : List UInt8} {v : Int} (h : itoa v = l) (h2 : (behind l).length ≤ 18) : IsNum l v := by
  refine ⟨h, ?_⟩
  have key : v.natAbs < 10 ^ 18 := by
    rcases Nat.lt_or_ge v.natAbs (10 ^ 18) with g | g
    · exact g
    · exfalso
      have hl : 19 ≤ (decDigits v.natAbs).length := by
        rcases Nat.lt_or_ge (decDigits v.natAbs).length 19 with g2 | g2
        · exfalso
          have h1 := dva_lt (decDigits v.natAbs) (dd_dig _) 0 1 (by omega)
          rw [dva_dd] at h1
          have h2 : 10 ^ (decDigits v.natAbs).length ≤ 10 ^ 18 := Nat.pow_le_pow_right (by omega) (by omega)
          omega
        · exact g2
      subst h
      by_cases hn : v < 0
      · rw [behind_drop (by rw [itoa_neg hn]; rfl), itoa_neg hn] at h2
        simp at h2
        omega
      · have hh : (itoa v).head? ≠ some 45 := by
          rw [itoa_pos (by omega)]
          have hd := dd_dig v.natAbs
          generalize decDigits v.natAbs = d at *
          cases d with
          | nil => simp
          | cons c r =>
            intro e
            simp only [List.head?_cons, Option.some.injEq] at e
            have := hd c (by simp)
            subst e
            unfold isDg at this
            exact absurd this.1 (by decide)
        rw [behind_self hh, itoa_pos (by omega)] at h2
        omega
  have e18 : (10 : Nat) ^ 18 = 1000000000000000000 := by decide
  omega
/-- What the reference's walk shows, where it takes a text. -/
theorem num_mk1 {l : List UInt8} {N : Int} (hh : l.head? = some 45) (h : Rd l 1 l.length N) (h1 : 2 ≤ l.length) (h2 : l.length ≤ 19) (h0 : ¬ (l.getD 1 0).toNat = 48) : IsNum l (-N) := by
  obtain ⟨e, hd⟩ := h.done
  have hb := behind_drop hh
  have := isNum_mk (l := l) (by rw [hb, List.length_drop]; omega) (by rw [hb, List.length_drop]; omega) (by rw [hb]; exact hd) (.inr ⟨l.getD 1 0, l.drop 2, by
    rw [hb, List.drop_eq_getElem_cons (by omega)]; simp [List.getD, show 1 < l.length by omega], h0⟩)
  rw [if_pos hh, hb] at this
  rw [e]
  exact this
theorem num_mk0 {l : List UInt8} {N : Int} (hh : l.head? ≠ some 45) (h : Rd l 0 l.length N) (h1 : 1 ≤ l.length) (h2 : l.length ≤ 18) (h0 : l.length = 1 ∨ ¬ (l.getD 0 0).toNat = 48) : IsNum l N := by
  obtain ⟨e, hd⟩ := h.done
  have hb := behind_self hh
  rw [List.drop_zero] at e hd
  have := isNum_mk (l := l) (by rw [hb]; exact h1) (by rw [hb]; exact h2) (by rw [hb]; exact hd) (by
    rcases h0 with h0 | h0
    · exact .inl h0
    · refine .inr ⟨l.getD 0 0, l.drop 1, ?_, h0⟩
      rw [hb]
      cases l with
      | nil => simp at h1
      | cons x r => rfl)
  rw [if_neg hh, hb] at this
  rw [e]
  exact this
end Go.Proofs.YtmkmhljiajgibaaGreatDoor
