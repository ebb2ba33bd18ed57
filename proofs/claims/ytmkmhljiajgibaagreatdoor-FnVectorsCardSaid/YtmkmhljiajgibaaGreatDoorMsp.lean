/-
  Texts cut at a byte, and lists of numbers read: plain facts on lists, no program in sight.
-/
import Derived.Test.YtmkmhljiajgibaaGreatDoorMrd
import Derived.Lib.Split
import Derived.Lib.SplitLaws
namespace Go.Proofs.YtmkmhljiajgibaaGreatDoor
set_option linter.unusedVariables false
set_option linter.unusedSimpArgs false
/-- The pieces between the bytes c. -/
def hd (x : List UInt8) : List (List UInt8) → List (List UInt8)
  | [] => [x]
  | h :: t => (x ++ h) :: t
def spl (c : UInt8) : List UInt8 → List (List UInt8)
  | [] => [[]]
  | b :: r => if b = c then [] :: spl c r else hd [b] (spl c r)
theorem spl_ne (c : UInt8) (l : List UInt8) : spl c l ≠ [] := by
  cases l with
  | nil => simp [spl]
  | cons b r =>
    unfold spl
    split
    · simp
    · cases spl c r <;> simp [hd]
theorem hd_nil {l : List (List UInt8)} (h : l ≠ []) : hd [] l = l := by
  cases l with
  | nil => exact absurd rfl h
  | cons a t => rfl
theorem hd_hd (x y : List UInt8) (l : List (List UInt8)) : hd x (hd y l) = hd (x ++ y) l := by
  cases l with
  | nil => rfl
  | cons a t => simp [hd, List.append_assoc]
theorem index_one_cons (b c : UInt8) (l : List UInt8) : Lib.index (b :: l) [c] = if b = c then 0 else if Lib.index l [c] == -1 then -1 else Lib.index l [c] + 1 := by
  rw [Lib.index]
  by_cases h : b = c
  · subst h; simp [List.isPrefixOf]
  · have : (c == b) = false := by simp; exact fun e => h e.symm
    simp [List.isPrefixOf, this, h]
theorem split_spl (c : UInt8) : ∀ l : List UInt8, Lib.splitK [c] 0 (Lib.count l [c]) l = spl c l
  | [] => by
    have : Lib.count [] [c] = 0 := by rw [Lib.count_one]; rfl
    rw [this]; rfl
  | b :: l => by
    have ih := split_spl c l
    by_cases h : b = c
    · subst h
      rw [Lib.count_cons_eq, Nat.add_comm, Lib.splitK, index_one_cons, if_pos rfl, if_neg (by decide), spl, if_pos rfl, ← ih]
      rfl
    · rw [Lib.count_cons_ne _ _ _ h, spl, if_neg h, ← ih]
      cases k : Lib.count l [c] with
      | zero => rfl
      | succ j =>
        rw [Lib.splitK, Lib.splitK, index_one_cons, if_neg h]
        by_cases g : Lib.index l [c] == -1
        · rw [if_pos g, if_pos (by decide), if_pos g]; rfl
        · have hge := Lib.index_ge l [c]
          have gne : Lib.index l [c] ≠ -1 := by simpa using g
          rw [if_neg g, if_neg (by simp; omega), if_neg g]
          have e : (Lib.index l [c] + 1).toNat = (Lib.index l [c]).toNat + 1 := by omega
          rw [e]
          rfl
theorem splitB_spl (c : UInt8) (s : ByteArray) : (Lib.splitB ⟨#[c]⟩ 0 (Lib.countB s ⟨#[c]⟩) s).map (·.data.toList) = spl c s.data.toList := by
  rw [Lib.splitB_data]
  exact split_spl c s.data.toList
theorem spl_sum (c : UInt8) (l : List UInt8) : ∀ p ∈ spl c l, p.length ≤ l.length := by
  induction l with
  | nil => simp [spl]
  | cons b r ih =>
    unfold spl
    split
    · intro p hp
      rcases List.mem_cons.1 hp with rfl | hp
      · simp
      · have := ih p hp; simp; omega
    · cases e : spl c r with
      | nil => exact absurd e (spl_ne c r)
      | cons h t =>
        rw [e] at ih
        intro p hp
        simp only [hd, List.mem_cons] at hp
        rcases hp with rfl | hp
        · have := ih h (by simp); simp; omega
        · have := ih p (by simp [hp]); simp; omega
theorem spl_len (c : UInt8) (l : List UInt8) : (spl c l).length ≤ l.length + 1 := by
  induction l with
  | nil => simp [spl]
  | cons b r ih =>
    unfold spl
    split
    · simp; omega
    · cases e : spl c r with
      | nil => exact absurd e (spl_ne c r)
      | cons h t => rw [e] at ih; simp [hd] at *; omega
/-- While a text is cut: f is where the last piece begins, k what has been looked at. -/
def Cut (c : UInt8) (l : List UInt8) (f k : Nat) (o : List (List UInt8)) : Prop := f ≤ k ∧ k ≤ l.length ∧ spl c l = o ++ hd ((l.drop f).take (k - f)) (spl c (l.drop k))
theorem Cut.start (c : UInt8) (l : List UInt8) : Cut c l 0 0 [] := ⟨Nat.le_refl _, Nat.zero_le _, by simp [hd_nil (spl_ne c l)]⟩
theorem Cut.hit {c : UInt8} {l : List UInt8} {f k : Nat} {o : List (List UInt8)} (h : Cut c l f k o) (hk : k < l.length) (e : l.getD k 0 = c) : Cut c l (k + 1) (k + 1) (o ++ [(l.drop f).take (k - f)]) := by
  obtain ⟨h1, h2, h3⟩ := h
  refine ⟨Nat.le_refl _, by omega, ?_⟩
  have hc : l.drop k = c :: l.drop (k + 1) := by rw [List.drop_eq_getElem_cons hk, ← e]; simp [List.getD, hk]
  rw [h3, hc, spl, if_pos rfl, Nat.sub_self, List.take_zero, hd_nil (spl_ne _ _), List.append_assoc]
  simp [hd]
theorem Cut.miss {c : UInt8} {l : List UInt8} {f k : Nat} {o : List (List UInt8)} (h : Cut c l f k o) (hk : k < l.length) (e : l.getD k 0 ≠ c) : Cut c l f (k + 1) o := by
  obtain ⟨h1, h2, h3⟩ := h
  refine ⟨by omega, by omega, ?_⟩
  have hc : l.drop k = l.getD k 0 :: l.drop (k + 1) := by rw [List.drop_eq_getElem_cons hk]; simp [List.getD, hk]
  rw [h3, hc, spl, if_neg e, hd_hd]
  congr 2
  rw [show k + 1 - f = (k - f) + 1 by omega, List.take_add_one, List.getElem?_drop, show f + (k - f) = k by omega, List.getElem?_eq_getElem hk]
  simp [List.getD, hk]
theorem Cut.done {c : UInt8} {l : List UInt8} {f : Nat} {o : List (List UInt8)} (h : Cut c l f l.length o) : o ++ [l.drop f] = spl c l := by
  obtain ⟨h1, h2, h3⟩ := h
  rw [h3, List.drop_length, spl, List.take_of_length_le (by rw [List.length_drop]; exact Nat.le_refl _)]
  simp [hd]
/-- A list of numbers read. -/
noncomputable def okP (p : List UInt8) : Bool := rdB p && decide (-1000000000000 ≤ rdV p ∧ rdV p ≤ 1000000000000)
noncomputable def rlB (l : List UInt8) : Bool := if l = [45] then true else decide ((spl 44 l).length ≤ 64) && (spl 44 l).all okP
noncomputable def rlV (l : List UInt8) : List Int := if l = [45] then [] else if rlB l then (spl 44 l).map rdV else []
theorem rl_dash : rlB [45] = true ∧ rlV [45] = [] := by constructor <;> simp [rlB, rlV]
theorem rl_long {l : List UInt8} (h0 : l ≠ [45]) (h : 64 < (spl 44 l).length) : rlB l = false ∧ rlV l = [] := by
  have e : rlB l = false := by unfold rlB; rw [if_neg h0]; simp; omega
  exact ⟨e, by unfold rlV; rw [if_neg h0, e]; simp⟩
theorem rl_bad {l p : List UInt8} (h0 : l ≠ [45]) (hp : p ∈ spl 44 l) (h : okP p = false) : rlB l = false ∧ rlV l = [] := by
  have e : rlB l = false := by
    unfold rlB
    rw [if_neg h0, Bool.and_eq_false_iff]
    right
    rw [List.all_eq_false]
    exact ⟨p, hp, by rw [h]; simp⟩
  exact ⟨e, by unfold rlV; rw [if_neg h0, e]; simp⟩
theorem rl_good {l : List UInt8} (h0 : l ≠ [45]) (h1 : (spl 44 l).length ≤ 64) (h : ∀ p ∈ spl 44 l, okP p = true) : rlB l = true ∧ rlV l = (spl 44 l).map rdV := by
  have e : rlB l = true := by
    unfold rlB
    rw [if_neg h0, Bool.and_eq_true]
    exact ⟨decide_eq_true h1, List.all_eq_true.2 h⟩
  exact ⟨e, by unfold rlV; rw [if_neg h0, e]; simp⟩
theorem okP_t {p : List UInt8} (h : okP p = true) : rdB p = true ∧ -1000000000000 ≤ rdV p ∧ rdV p ≤ 1000000000000 := by
  unfold okP at h
  rw [Bool.and_eq_true] at h
  exact ⟨h.1, of_decide_eq_true h.2⟩
theorem okP_f {p : List UInt8} (h : okP p = false) : rdB p = false ∨ (rdB p = true ∧ ¬ (-1000000000000 ≤ rdV p ∧ rdV p ≤ 1000000000000)) := by
  unfold okP at h
  cases c : rdB p
  · exact .inl rfl
  · rw [c] at h
    exact .inr ⟨rfl, of_decide_eq_false (by simpa using h)⟩
theorem rlV_len (l : List UInt8) : (rlV l).length ≤ 64 := by
  unfold rlV
  split
  · simp
  · split
    · rename_i h0 h
      unfold rlB at h
      rw [if_neg h0, Bool.and_eq_true] at h
      rw [List.length_map]
      exact of_decide_eq_true h.1
    · simp
end Go.Proofs.YtmkmhljiajgibaaGreatDoor
