/-
  Reading angles: plain facts on lists of bytes, no program in sight.
-/
import Derived.Test.YtghagmjpcebmjaaDoorAt
import Derived.Test.YtghagmjpcebmjaaDoorMrd
import Derived.Lib.Bytealg
namespace Go.Proofs.YtghagmjpcebmjaaDoor
set_option linter.unusedVariables false
set_option linter.unusedSimpArgs false
open Go.Lib (decDigits itoa parseUintM parseUintB parseIntB)
theorem dva_app0 (a : Nat) (l : List UInt8) : dva a l = a * 10 ^ l.length + dva 0 l := by
  induction l generalizing a with
  | nil => rw [dva_nil, dva_nil]; simp
  | cons c l ih =>
    rw [dva_cons, dva_cons, ih (a * 10 + _), ih (0 * 10 + _), List.length_cons, Nat.pow_succ]
    have e : a * (10 ^ l.length * 10) = a * 10 * 10 ^ l.length := by rw [Nat.mul_comm (10 ^ l.length) 10, Nat.mul_assoc]
    simp only [Nat.zero_mul, Nat.zero_add]
    rw [e, Nat.add_mul]
    omega
theorem dva_zero (l : List UInt8) : dva 0 (48 :: l) = dva 0 l := by rw [dva_cons]; rfl
theorem dva_rep (k : Nat) (l : List UInt8) : dva 0 (List.replicate k 48 ++ l) = dva 0 l := by
  induction k with
  | zero => rfl
  | succ k ih => rw [List.replicate_succ, List.cons_append, dva_zero, ih]
theorem isDg48 : isDg 48 := by unfold isDg; decide
theorem pd_dig {k u : Nat} : ∀ c ∈ pd k (decDigits u), isDg c := by
  intro c hc
  unfold pd at hc
  rcases List.mem_append.1 hc with hc | hc
  · rw [List.eq_of_mem_replicate hc]; exact isDg48
  · exact dd_dig u c hc
theorem pd_dva (k u : Nat) : dva 0 (pd k (decDigits u)) = u := by unfold pd; rw [dva_rep, dva_dd]
theorem itoa_nat (u : Nat) : itoa (u : Int) = decDigits u := by rw [itoa_pos (by omega)]; rfl
/-- Degrees and three digits. -/
def bod (u : Nat) : List UInt8 := decDigits (u / 1000) ++ 46 :: pd 3 (decDigits (u % 1000))
theorem atL_bod (a : Int) : atL a = (if a < 0 then [45] else []) ++ bod a.natAbs := by
  unfold atL bod
  rw [itoa_nat, itoa_nat]
  simp
theorem pd3_3 {q : Nat} (h : q < 1000) : (pd 3 (decDigits q)).length = 3 := by
  rw [pd_len]
  have := dd_len_lt (u := q) (k := 3) (by simpa using h) (by omega)
  omega
theorem dd_len1 (u : Nat) : 1 ≤ (decDigits u).length := by rw [Lib.decDigits_length]; exact Lib.nDigits_pos u
theorem bod_len (u : Nat) : (bod u).length = (decDigits (u / 1000)).length + 4 := by
  unfold bod
  rw [List.length_append, List.length_cons, pd3_3 (by omega)]
theorem bod_len2 {u : Nat} (h : u ≤ 359999) : 5 ≤ (bod u).length ∧ (bod u).length ≤ 7 := by
  rw [bod_len]
  have h1 := dd_len1 (u / 1000)
  have h2 := dd_len_lt (u := u / 1000) (k := 3) (by omega) (by omega)
  omega
/-- A text without the byte at m. -/
def cutL (t : List UInt8) (m k : Nat) : List UInt8 := if k ≤ m then t.take k else t.take m ++ (t.drop (m + 1)).take (k - (m + 1))
theorem bod_cut (u : Nat) : (bod u).take ((bod u).length - 4) ++ (bod u).drop ((bod u).length - 4 + 1) = decDigits (u / 1000) ++ pd 3 (decDigits (u % 1000)) := by
  rw [bod_len, Nat.add_sub_cancel]
  unfold bod
  rw [List.take_left, show (decDigits (u / 1000)).length + 1 = (decDigits (u / 1000) ++ [46]).length by simp, show decDigits (u / 1000) ++ 46 :: pd 3 (decDigits (u % 1000)) = (decDigits (u / 1000) ++ [46]) ++ pd 3 (decDigits (u % 1000)) by simp, List.drop_left]
theorem bod_dig (u : Nat) : ∀ c ∈ decDigits (u / 1000) ++ pd 3 (decDigits (u % 1000)), isDg c := by
  intro c hc
  rcases List.mem_append.1 hc with hc | hc
  · exact dd_dig _ c hc
  · exact pd_dig c hc
theorem bod_dva (u : Nat) : dva 0 (decDigits (u / 1000) ++ pd 3 (decDigits (u % 1000))) = u := by
  rw [dva_app, dva_dd, dva_app0, pd_dva, pd3_3 (by omega)]
  omega
theorem bod_dot (u : Nat) : (bod u).getD ((bod u).length - 4) 0 = 46 := by
  rw [bod_len, Nat.add_sub_cancel]
  unfold bod
  simp [List.getD]
theorem bod_head (u : Nat) : ∃ c r, bod u = c :: r ∧ isDg c := by
  unfold bod
  have hn := dd_ne (u / 1000)
  have hd := dd_dig (u / 1000)
  generalize decDigits (u / 1000) = l at *
  cases l with
  | nil => exact absurd rfl hn
  | cons c r => exact ⟨c, _, rfl, hd c (by simp)⟩
theorem indexByte_at (x y : List UInt8) (c : UInt8) (h : ∀ b ∈ x, b ≠ c) : Lib.indexByte (x ++ c :: y) c = (x.length : Int) := by
  induction x with
  | nil => simp [Lib.indexByte]
  | cons b x ih =>
    have hb := h b (by simp)
    rw [List.cons_append, Lib.indexByte, if_neg (by simpa using hb), ih (fun z hz => h z (by simp [hz])), if_neg (by first | (simp; done) | (simp; omega))]
    simp
theorem isDg_ne46 {c : UInt8} (h : isDg c) : c ≠ 46 := by rintro rfl; unfold isDg at h; exact absurd h.1 (by decide)
theorem isDg_ne45 {c : UInt8} (h : isDg c) : c ≠ 45 := by rintro rfl; unfold isDg at h; exact absurd h.1 (by decide)
theorem atL_len (a : Int) : (atL a).length = (if a < 0 then 1 else 0) + (bod a.natAbs).length := by rw [atL_bod, List.length_append]; split <;> rfl
theorem atL_index (a : Int) : Lib.indexByte (atL a) 46 = ((atL a).length : Int) - 4 := by
  rw [atL_len, bod_len, atL_bod]
  unfold bod
  rw [← List.append_assoc, indexByte_at _ _ _ (by
    intro b hb
    rcases List.mem_append.1 hb with hb | hb
    · split at hb
      · simp at hb; subst hb; decide
      · simp at hb
    · exact isDg_ne46 (dd_dig _ b hb)), List.length_append]
  split
  · simp only [List.length_cons, List.length_nil]; omega
  · simp only [List.length_nil]; omega
/-- The digits alone parse as the angle. -/
theorem atL_parse {a : Int} (h0 : -359999 ≤ a) (h1 : a ≤ 359999) {d : Nat} (hd : (d : Int) = Lib.indexByte (atL a) 46) : parseIntB 64 ((atL a).take d ++ (atL a).drop (d + 1)) = .ok a := by
  rw [atL_index, atL_len] at hd
  have hl := bod_len a.natAbs
  have hdg := bod_dig a.natAbs
  have hdv := bod_dva a.natAbs
  have hcut := bod_cut a.natAbs
  have hne : decDigits (a.natAbs / 1000) ++ pd 3 (decDigits (a.natAbs % 1000)) ≠ [] := by simp [dd_ne]
  rw [atL_bod]
  by_cases hn : a < 0
  · rw [if_pos hn] at hd ⊢
    obtain ⟨j, rfl⟩ : ∃ j, d = j + 1 := ⟨d - 1, by omega⟩
    rw [show ([45] ++ bod a.natAbs : List UInt8) = 45 :: bod a.natAbs from rfl, List.take_succ_cons, List.drop_succ_cons, List.cons_append, show j = (bod a.natAbs).length - 4 by omega, hcut, parseI_neg hne hdg (by rw [hdv]; omega), hdv]
    congr 1; omega
  · rw [if_neg hn] at hd ⊢
    rw [List.nil_append, show d = (bod a.natAbs).length - 4 by omega, hcut]
    generalize decDigits (a.natAbs / 1000) ++ pd 3 (decDigits (a.natAbs % 1000)) = l at *
    cases l with
    | nil => exact absurd rfl hne
    | cons c r => rw [parseI_pos hdg (by omega), hdv]; congr 1; omega
def IsAng (l : List UInt8) (n : Int) : Prop := atL n = l ∧ -359999 ≤ n ∧ n ≤ 359999
theorem IsAng.dot {l : List UInt8} {n : Int} (h : IsAng l n) : Lib.indexByte l 46 = (l.length : Int) - 4 := by rw [← h.1]; exact atL_index n
theorem IsAng.parse {l : List UInt8} {n : Int} (h : IsAng l n) {d : Nat} (hd : (d : Int) = Lib.indexByte l 46) : parseIntB 64 (l.take d ++ l.drop (d + 1)) = .ok n := by
  rw [← h.1] at hd ⊢; exact atL_parse h.2.1 h.2.2 hd
theorem IsAng.len {l : List UInt8} {n : Int} (h : IsAng l n) : 5 ≤ l.length := by
  rw [← h.1, atL_len]
  have := bod_len2 (u := n.natAbs) (by have := h.2; omega)
  omega
theorem IsAng.unique {l : List UInt8} {n m : Int} (h : IsAng l n) (k : IsAng l m) : n = m := by
  have e := h.dot
  have hl := h.len
  obtain ⟨d, hd⟩ := Int.eq_ofNat_of_zero_le (show 0 ≤ Lib.indexByte l 46 by omega)
  have a := h.parse hd.symm
  rw [k.parse hd.symm] at a
  injection a with a
  exact a.symm
noncomputable def raB (l : List UInt8) : Bool := @decide (∃ n, IsAng l n) (Classical.propDecidable _)
noncomputable def raV (l : List UInt8) : Int := @ite _ (∃ n, IsAng l n) (Classical.propDecidable _) (Classical.epsilon fun n => IsAng l n) 0
theorem ra_yes {l : List UInt8} {n : Int} (h : IsAng l n) : raB l = true ∧ raV l = n := by
  have hex : ∃ n, IsAng l n := ⟨n, h⟩
  unfold raB raV
  refine ⟨@decide_eq_true _ (Classical.propDecidable _) hex, ?_⟩
  rw [if_pos hex]
  exact (Classical.epsilon_spec hex).unique h
theorem ra_no {l : List UInt8} (h : ¬ ∃ n, IsAng l n) : raB l = false ∧ raV l = 0 := by
  unfold raB raV
  exact ⟨@decide_eq_false _ (Classical.propDecidable _) h, if_neg h⟩
/-- Behind the sign: a text of degrees. -/
theorem ang_neg {l : List UInt8} {n : Int} (h : IsAng l n) (hh : l.head? = some 45) : n < 0 ∧ l.drop 1 = bod n.natAbs := by
  have e := h.1
  rw [atL_bod] at e
  by_cases hn : n < 0
  · rw [if_pos hn] at e
    exact ⟨hn, by rw [← e]; rfl⟩
  · rw [if_neg hn, List.nil_append] at e
    obtain ⟨c, r, e1, e2⟩ := bod_head n.natAbs
    rw [← e, e1] at hh
    simp only [List.head?_cons, Option.some.injEq] at hh
    exact absurd hh (isDg_ne45 e2)
theorem ang_pos {l : List UInt8} {n : Int} (h : IsAng l n) (hh : l.head? ≠ some 45) : 0 ≤ n ∧ l = bod n.natAbs := by
  have e := h.1
  rw [atL_bod] at e
  by_cases hn : n < 0
  · rw [if_pos hn] at e
    exact absurd (by rw [← e]; rfl) hh
  · rw [if_neg hn, List.nil_append] at e
    exact ⟨by omega, e.symm⟩
/-- What is read so far: all digits but the byte at m. -/
def Ra (t : List UInt8) (m k : Nat) (N : Int) : Prop := k ≤ t.length ∧ N = (dva 0 (cutL t m k) : Nat) ∧ ∀ c ∈ cutL t m k, isDg c
theorem Ra.start (t : List UInt8) (m : Nat) : Ra t m 0 0 := ⟨by omega, by unfold cutL; rw [if_pos (by omega), List.take_zero, dva_nil]; rfl, by unfold cutL; rw [if_pos (by omega), List.take_zero]; simp⟩
theorem Ra.skip {t : List UInt8} {m : Nat} {N : Int} (h : Ra t m m N) (hm : m < t.length) : Ra t m (m + 1) N := by
  obtain ⟨h1, h2, h3⟩ := h
  have e : cutL t m (m + 1) = cutL t m m := by unfold cutL; rw [if_neg (by omega), if_pos (by omega), Nat.sub_self, List.take_zero, List.append_nil]
  exact ⟨by omega, by rw [e]; exact h2, by rw [e]; exact h3⟩
theorem cut_step {t : List UInt8} {m k : Nat} (hk : k < t.length) (hne : k ≠ m) : cutL t m (k + 1) = cutL t m k ++ [t.getD k 0] := by
  unfold cutL
  by_cases h : k ≤ m
  · rw [if_pos (by omega), if_pos h, List.take_add_one, List.getElem?_eq_getElem hk]
    simp [List.getD, hk]
  · rw [if_neg (by omega), if_neg h, List.append_assoc]
    congr 1
    rw [show k + 1 - (m + 1) = (k - (m + 1)) + 1 by omega, List.take_add_one, List.getElem?_drop, show m + 1 + (k - (m + 1)) = k by omega, List.getElem?_eq_getElem hk]
    simp [List.getD, hk]
theorem Ra.step {t : List UInt8} {m k : Nat} {N c : Int} (h : Ra t m k N) (hk : k < t.length) (hne : k ≠ m) (e : c = ((t.getD k 0).toNat : Int)) (c1 : 48 ≤ c) (c2 : c ≤ 57) : Ra t m (k + 1) (10 * N + (c - 48)) := by
  obtain ⟨h1, h2, h3⟩ := h
  refine ⟨by omega, ?_, ?_⟩
  · rw [cut_step hk hne, dva_snoc, h2, e]; omega
  · rw [cut_step hk hne]
    intro x hx
    rcases List.mem_append.1 hx with hx | hx
    · exact h3 x hx
    · simp only [List.mem_singleton] at hx
      subst hx
      unfold isDg
      omega
theorem cut_len (t : List UInt8) (m k : Nat) : (cutL t m k).length ≤ k := by
  unfold cutL
  split
  · rw [List.length_take]; omega
  · rw [List.length_append, List.length_take, List.length_take]; omega
theorem Ra.bd {t : List UInt8} {m k : Nat} {N : Int} (h : Ra t m k N) (hk : k ≤ 7) : 0 ≤ N ∧ N ≤ 9999999 := by
  obtain ⟨h1, h2, h3⟩ := h
  have h5 := dva_lt _ h3 0 1 (by omega)
  have h6 : 10 ^ (cutL t m k).length ≤ 10 ^ 7 := Nat.pow_le_pow_right (by omega) (Nat.le_trans (cut_len t m k) hk)
  have e7 : (10 : Nat) ^ 7 = 10000000 := by decide
  omega
/-- At the end: the number of a text of degrees. -/
theorem Ra.bod {u : Nat} {N : Int} (h : Ra (bod u) ((bod u).length - 4) (bod u).length N) : N = u := by
  obtain ⟨h1, h2, h3⟩ := h
  rw [h2]
  have hl := bod_len u
  have e : cutL (Go.Proofs.YtghagmjpcebmjaaDoor.bod u) ((Go.Proofs.YtghagmjpcebmjaaDoor.bod u).length - 4) (Go.Proofs.YtghagmjpcebmjaaDoor.bod u).length = decDigits (u / 1000) ++ pd 3 (decDigits (u % 1000)) := by
    unfold cutL
    rw [if_neg (by omega), List.take_of_length_le (l := (Go.Proofs.YtghagmjpcebmjaaDoor.bod u).drop _) (by rw [List.length_drop]; exact Nat.le_refl _), bod_cut]
  rw [e, bod_dva]
theorem bod_isDg {u k : Nat} (hk : k < (bod u).length) (hne : k ≠ (bod u).length - 4) : isDg ((bod u).getD k 0) := by
  have hl := bod_len u
  have hm : (bod u).getD k 0 ∈ decDigits (u / 1000) ++ pd 3 (decDigits (u % 1000)) := by
    rw [← bod_cut]
    by_cases h : k < (bod u).length - 4
    · refine List.mem_append.2 (.inl ?_)
      rw [List.mem_iff_getElem]
      refine ⟨k, by rw [List.length_take]; omega, ?_⟩
      rw [List.getElem_take]; simp [List.getD, hk]
    · refine List.mem_append.2 (.inr ?_)
      rw [List.mem_iff_getElem]
      refine ⟨k - ((bod u).length - 4 + 1), by rw [List.length_drop]; omega, ?_⟩
      rw [List.getElem_drop]
      simp only [List.getD, List.getElem?_eq_getElem hk, Option.getD_some]
      congr 1; omega
  exact bod_dig u _ hm
end Go.Proofs.YtghagmjpcebmjaaDoor
