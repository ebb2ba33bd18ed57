/-
  The law on basics: plain facts.
-/
import Derived.Test.YtmkmhljiajgibaaGreatDoorRl
import Derived.Test.YtmkmhljiajgibaaGreatDoorRoot
import Derived.Test.YtmkmhljiajgibaaGreatDoorNum
namespace Go.Proofs.YtmkmhljiajgibaaGreatDoor
set_option linter.unusedVariables false
set_option linter.unusedSimpArgs false
open Go.Lib (decDigits itoa)

theorem spl_none {c : UInt8} {p : List UInt8} (h : ∀ x ∈ p, x ≠ c) : spl c p = [p] := by
  induction p with
  | nil => rfl
  | cons b r ih => rw [spl, if_neg (h b (by simp)), ih (fun x hx => h x (by simp [hx]))]; rfl
theorem hd_app (x : List UInt8) {l r : List (List UInt8)} (h : l ≠ []) : hd x (l ++ r) = hd x l ++ r := by
  cases l with
  | nil => exact absurd rfl h
  | cons a t => rfl
theorem spl_app (c : UInt8) (l p : List UInt8) (h : ∀ x ∈ p, x ≠ c) : spl c (l ++ [c] ++ p) = spl c l ++ [p] := by
  induction l with
  | nil =>
    show spl c (c :: p) = _
    rw [spl, spl, if_pos rfl, spl_none h]
    rfl
  | cons b r ih =>
    show spl c (b :: (r ++ [c] ++ p)) = _
    rw [spl, spl]
    split
    · rw [ih]; rfl
    · rw [ih, hd_app _ (spl_ne c r)]
theorem itoa_not44 (n : Int) : ∀ x ∈ itoa n, x ≠ 44 := by
  intro x hx e
  subst e
  have key : ∀ u : Nat, (44 : UInt8) ∉ decDigits u := fun u hu => by
    have := (dd_dig u _ hu).1
    have e : (44 : UInt8).toNat = 44 := rfl
    omega
  by_cases h : n < 0
  · rw [itoa_neg h] at hx
    rcases List.mem_cons.1 hx with h | h
    · cases h
    · exact key _ h
  · rw [itoa_pos (by omega)] at hx
    exact key _ hx
theorem spl_ltN (zs : List Int) : ∀ k, 1 ≤ k → spl 44 (ltN zs k) = (List.range k).map fun j => itoa (zs.getD j 0)
  | 0, h => by omega
  | k + 1, _ => by
    by_cases c : k = 0
    · subst c
      rw [ltN_1, spl_none (itoa_not44 _)]
      rfl
    · rw [ltN_s zs c, spl_app _ _ _ (itoa_not44 _), spl_ltN zs k (by omega), List.range_succ, List.map_append]
      rfl
theorem isNum_itoa {n : Int} (h : -1000000000000 ≤ n ∧ n ≤ 1000000000000) : IsNum (itoa n) n := ⟨rfl, by omega, by omega⟩
theorem okP_itoa {n : Int} (h : -1000000000000 ≤ n ∧ n ≤ 1000000000000) : okP (itoa n) = true ∧ rdV (itoa n) = n := by
  obtain ⟨a, b⟩ := rd_yes (isNum_itoa h)
  exact ⟨by unfold okP; rw [a, b, decide_eq_true h]; rfl, b⟩
theorem map_getD (zs : List Int) : (List.range zs.length).map (fun j => zs.getD j 0) = zs := by
  refine List.ext_getElem (by simp) fun j h1 h2 => ?_
  simp [List.getD, h2]
/-- A list's text is read back. -/
theorem rl_ltT {zs : List Int} (h : ltOk zs = true) (h2 : 2 ≤ zs.length) : rlB (ltT zs) = true ∧ rlV (ltT zs) = zs := by
  obtain ⟨hl, hf⟩ := ltOk_t h
  have e : ltT zs = ltN zs zs.length := by rw [ltT_yes h]; unfold ltL; rw [if_neg (by omega)]
  rw [e]
  have hs := spl_ltN zs zs.length (by omega)
  have hne : ltN zs zs.length ≠ [45] := fun c => by
    rw [c] at hs
    have := congrArg List.length hs
    rw [spl_none (by decide)] at this
    simp at this
    omega
  have := rl_good hne (by rw [hs]; simpa using hl) (by
    rw [hs]
    intro p hp
    obtain ⟨j, hj, rfl⟩ := List.mem_map.1 hp
    exact (okP_itoa (hf j (by simpa using hj))).1)
  refine ⟨this.1, ?_⟩
  rw [this.2, hs, List.map_map]
  conv => rhs; rw [← map_getD zs]
  refine List.map_congr_left fun j hj => ?_
  exact (okP_itoa (hf j (by simpa using hj))).2
theorem ltT_len {zs : List Int} : (tx (ltT zs)).size ≤ 1048576 := by
  rw [tx_size]
  cases h : ltOk zs
  · rw [ltT_no h]; simp
  · obtain ⟨hl, hf⟩ := ltOk_t h
    rw [ltT_yes h]
    unfold ltL
    split
    · simp
    · have := ltN_len hf; omega
theorem qr_near {n d : Int} (hd : 0 < d) : -d ≤ 2 * (n - qr n d * d) ∧ 2 * (n - qr n d * d) ≤ d := by
  unfold qr
  have h1 := Int.emod_add_mul_ediv (2 * n + d) (2 * d)
  have h2 := Int.emod_nonneg (2 * n + d) (show 2 * d ≠ 0 by omega)
  have h3 := Int.emod_lt_of_pos (2 * n + d) (show 0 < 2 * d by omega)
  generalize (2 * n + d) / (2 * d) = q at *
  generalize (2 * n + d) % (2 * d) = r at *
  have e : 2 * d * q = 2 * (q * d) := by grind
  omega
theorem divR_near {a b : Int} (hb : 0 < b) : -b ≤ 2 * (a - divR a b * b) ∧ 2 * (a - divR a b * b) ≤ b := by
  by_cases h : a < 0
  · rw [divR_neg h hb]
    have := qr_near (n := -a) hb
    have e : -qr (-a) b * b = -(qr (-a) b * b) := by grind
    omega
  · rw [divR_nonneg (by omega) hb]
    exact qr_near hb
theorem divR_flip {a b : Int} (hb : 0 < b) : divR (-a) b = -divR a b := by
  by_cases h : a < 0
  · rw [divR_neg h hb, divR_nonneg (by omega) hb]; omega
  · by_cases h0 : a = 0
    · subst h0
      have e : qr 0 b = 0 := by unfold qr; rw [Int.mul_zero, Int.zero_add]; exact Int.ediv_eq_zero_of_lt (by omega) (by omega)
      rw [show -(0 : Int) = 0 from rfl, divR_nonneg (by omega) hb, e]; rfl
    · rw [divR_neg (by omega) hb, divR_nonneg (by omega) hb, Int.neg_neg]
theorem dvr_in {a b : Int} (hb : 1 ≤ b) (hb2 : b ≤ 1000000) (h : -1000000000000 ≤ a ∧ a ≤ 1000000000000) : dvr a b = divR a b := by
  unfold dvr
  rw [inB_mk h, inB_mk (show -1000000000000 ≤ b ∧ b ≤ 1000000000000 by omega), show (b == 0) = false from beq_false_of_ne (by omega)]
  rfl
theorem root_sq {a r : Int} (h : IsRoot a r) (ha : a ≤ 3600000000) : 0 ≤ r ∧ r ≤ 60000 ∧ 0 ≤ r * r ∧ r * r ≤ a ∧ a < (r + 1) * (r + 1) ∧ (r + 1) * (r + 1) ≤ 3600120001 := by
  obtain ⟨h1, h2, h3⟩ := h
  have h4 : r ≤ 60000 := by
    by_cases g : r ≤ 60000
    · exact g
    · have := sq_le (a := 60001) (b := r) (by omega) (by omega)
      omega
  have h5 := sq_le (a := r + 1) (b := 60001) (by omega) (by omega)
  exact ⟨h1, h4, Int.mul_nonneg h1 h1, h2, h3, by omega⟩
theorem blendC_in {y z x : Int} (hy : -2500 ≤ y ∧ y ≤ 2500) (hz : -2500 ≤ z ∧ z ≤ 2500) : blendC 0 y 1000 z x = blendF 0 y 1000 z x := by
  unfold blendC blB
  rw [inB_mk (show -1000000 ≤ (0 : Int) ∧ (0 : Int) ≤ 1000000 by omega), inB_mk (show -1000000 ≤ y ∧ y ≤ 1000000 by omega), inB_mk (show -1000000 ≤ (1000 : Int) ∧ (1000 : Int) ≤ 1000000 by omega), inB_mk (show -1000000 ≤ z ∧ z ≤ 1000000 by omega)]
  rfl
theorem blendF_0 (y z : Int) : blendF 0 y 1000 z 0 = y := by unfold blendF; rw [if_pos (by omega)]
theorem blendF_1 (y z : Int) : blendF 0 y 1000 z 1000 = z := by unfold blendF; rw [if_neg (by omega), if_pos (by omega)]
end Go.Proofs.YtmkmhljiajgibaaGreatDoor
