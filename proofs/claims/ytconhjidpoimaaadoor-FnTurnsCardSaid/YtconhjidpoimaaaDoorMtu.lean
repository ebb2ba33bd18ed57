/-
  The law on turns: plain facts.
-/
import Derived.Test.YtconhjidpoimaaaDoorRot
import Derived.Test.YtconhjidpoimaaaDoorBlv
import Derived.Test.YtconhjidpoimaaaDoorMturn
import Derived.Test.YtconhjidpoimaaaDoorMlaw
namespace Go.Proofs.YtconhjidpoimaaaDoor
set_option linter.unusedVariables false
set_option linter.unusedSimpArgs false

theorem chV_ok {v x y z : Int} (h : okV x y z = true) : chV v x y z = v ∧ chC x y z = 0 := by unfold chV chC; rw [h]; exact ⟨rfl, rfl⟩
theorem chC_ok {x y z : Int} (h : chC x y z = 0) : okV x y z = true := by
  unfold chC at h
  split at h
  · assumption
  · omega
theorem chV_no {v x y z : Int} (h : okV x y z = false) : chV v x y z = 0 := by unfold chV; rw [h]; rfl
theorem ro_ok {a g x y z : Int} (h : roC a g x y z = 0) : okV x y z = true ∧ (1 ≤ a ∧ a ≤ 3) ∧ okV (rtX a g x y z) (rtY a g x y z) (rtZ a g x y z) = true ∧ roX a g x y z = rtX a g x y z ∧ roY a g x y z = rtY a g x y z ∧ roZ a g x y z = rtZ a g x y z := by
  unfold roC at h
  split at h
  · rename_i h1
    split at h
    · rename_i h2
      have h3 := chC_ok h
      refine ⟨h1, inB_t h2, h3, ?_, ?_, ?_⟩
      · unfold roX roV; rw [h1, h2]; exact (chV_ok h3).1
      · unfold roY roV; rw [h1, h2]; exact (chV_ok h3).1
      · unfold roZ roV; rw [h1, h2]; exact (chV_ok h3).1
    · omega
  · omega
theorem le_ok {x y z : Int} (h : okV x y z = true) : leA x y z = lenF x y z ∧ leC x y z = 0 := by unfold leA leC; rw [h]; exact ⟨rfl, rfl⟩
theorem len_spec (x y z : Int) : IsRoot (x * x + y * y + z * z) (lenF x y z) := rootF_spec (by have := sq_nn x; have := sq_nn y; have := sq_nn z; omega)
theorem turns {a g k x y z X Y Z : Int} (h : roC a g x y z = 0) (hs : sinI k = -sinI g) (hc : cosI k = cosI g) (hX : roX a g x y z = X) (hY : roY a g x y z = Y) (hZ : roZ a g x y z = Z) :
    leC x y z = 0 ∧ leC X Y Z = 0 ∧ (-500 ≤ leA x y z - leA X Y Z ∧ leA x y z - leA X Y Z ≤ 500) ∧ (roC a k X Y Z = 0 → (-1000 ≤ roX a k X Y Z - x ∧ roX a k X Y Z - x ≤ 1000) ∧ (-1000 ≤ roY a k X Y Z - y ∧ roY a k X Y Z - y ≤ 1000) ∧ (-1000 ≤ roZ a k X Y Z - z ∧ roZ a k X Y Z - z ≤ 1000)) := by
  obtain ⟨hv, ⟨a1, a3⟩, hw, e1, e2, e3⟩ := ro_ok h
  rw [hX] at e1
  rw [hY] at e2
  rw [hZ] at e3
  subst e1 e2 e3
  clear hX hY hZ h
  obtain ⟨⟨x1, x2⟩, ⟨y1, y2⟩, z1, z2⟩ := okV_t hv
  obtain ⟨s1, s2⟩ := sinI_bd g
  obtain ⟨c1, c2⟩ := cosI_bd g
  obtain ⟨q1, q2⟩ := sq_sum g
  have key : ∀ {p q r P Q : Int}, (-2000000 ≤ p ∧ p ≤ 2000000) → (-2000000 ≤ q ∧ q ≤ 2000000) → (-2000000 ≤ r ∧ r ≤ 2000000) → P = divR (p * cosI g - q * sinI g) 1000000 → Q = divR (p * sinI g + q * cosI g) 1000000 →
      (∀ n m, IsRoot (p * p + q * q + r * r) n → IsRoot (P * P + Q * Q + r * r) m → -500 ≤ n - m ∧ n - m ≤ 500) ∧
      (∀ R T, R = divR (P * cosI g + Q * sinI g) 1000000 → T = divR (Q * cosI g - P * sinI g) 1000000 → -1000 ≤ R - p ∧ R - p ≤ 1000 ∧ -1000 ≤ T - q ∧ T - q ≤ 1000) := by
    intro p q r P Q hp hq hr hP hQ
    have nP : Near P (p * cosI g - q * sinI g) := by rw [hP]; exact near_div _
    have nQ : Near Q (p * sinI g + q * cosI g) := by rw [hQ]; exact near_div _
    refine ⟨fun n m hn hm => len_near hp.1 hp.2 hq.1 hq.2 hr.1 hr.2 s1 s2 c1 c2 q1 q2 nP nQ hn hm, fun R T hR hT => ?_⟩
    exact back_near hp.1 hp.2 hq.1 hq.2 s1 s2 c1 c2 q1 q2 nP nQ (by rw [hR]; exact near_div _) (by rw [hT]; exact near_div _)
  have l1 := len_spec x y z
  rw [(le_ok hv).1, (le_ok hv).2, (le_ok hw).1, (le_ok hw).2]
  refine ⟨rfl, rfl, ?_, fun hb => ?_⟩
  · have l2 := len_spec (rtX a g x y z) (rtY a g x y z) (rtZ a g x y z)
    generalize lenF x y z = n at *
    generalize lenF (rtX a g x y z) (rtY a g x y z) (rtZ a g x y z) = m at *
    rcases (show a = 1 ∨ a = 2 ∨ a = 3 by omega) with rfl | rfl | rfl
    · obtain ⟨r1, r2, r3⟩ := rt_1 g x y z
      rw [r1] at l2
      refine (key (p := y) (q := z) (r := x) ⟨y1, y2⟩ ⟨z1, z2⟩ ⟨x1, x2⟩ r2 r3).1 n m ?_ ?_
      · rw [show y * y + z * z + x * x = x * x + y * y + z * z by omega]; exact l1
      · generalize rtY 1 g x y z = P at *
        generalize rtZ 1 g x y z = Q at *
        rw [show P * P + Q * Q + x * x = x * x + P * P + Q * Q by omega]; exact l2
    · obtain ⟨r1, r2, r3⟩ := rt_2 g x y z
      rw [r2] at l2
      refine (key (p := z) (q := x) (r := y) (P := rtZ 2 g x y z) (Q := rtX 2 g x y z) ⟨z1, z2⟩ ⟨x1, x2⟩ ⟨y1, y2⟩ r3 (by rw [r1]; congr 1; omega)).1 n m ?_ ?_
      · rw [show z * z + x * x + y * y = x * x + y * y + z * z by omega]; exact l1
      · generalize rtX 2 g x y z = P at *
        generalize rtZ 2 g x y z = Q at *
        rw [show Q * Q + P * P + y * y = P * P + y * y + Q * Q by omega]; exact l2
    · obtain ⟨r1, r2, r3⟩ := rt_3 g x y z
      rw [r3] at l2
      exact (key (p := x) (q := y) (r := z) ⟨x1, x2⟩ ⟨y1, y2⟩ ⟨z1, z2⟩ r1 r2).1 n m l1 l2
  · obtain ⟨-, -, -, f1, f2, f3⟩ := ro_ok hb
    rw [f1, f2, f3]
    rcases (show a = 1 ∨ a = 2 ∨ a = 3 by omega) with rfl | rfl | rfl
    · obtain ⟨r1, r2, r3⟩ := rt_1 g x y z
      have kk := (key (p := y) (q := z) (r := x) ⟨y1, y2⟩ ⟨z1, z2⟩ ⟨x1, x2⟩ r2 r3).2
      generalize rtX 1 g x y z = A at *
      generalize rtY 1 g x y z = B at *
      generalize rtZ 1 g x y z = C at *
      obtain ⟨u1, u2, u3⟩ := rt_1 k A B C
      rw [hs, hc] at u2 u3
      have := kk (rtY 1 k A B C) (rtZ 1 k A B C) (by rw [u2, Int.mul_neg]; congr 1 <;> omega) (by rw [u3, Int.mul_neg]; congr 1 <;> omega)
      rw [u1]
      omega
    · obtain ⟨r1, r2, r3⟩ := rt_2 g x y z
      have kk := (key (p := z) (q := x) (r := y) (P := rtZ 2 g x y z) (Q := rtX 2 g x y z) ⟨z1, z2⟩ ⟨x1, x2⟩ ⟨y1, y2⟩ r3 (by rw [r1]; congr 1; omega)).2
      generalize rtX 2 g x y z = A at *
      generalize rtY 2 g x y z = B at *
      generalize rtZ 2 g x y z = C at *
      obtain ⟨u1, u2, u3⟩ := rt_2 k A B C
      rw [hs, hc] at u1 u3
      have := kk (rtZ 2 k A B C) (rtX 2 k A B C) (by rw [u3, Int.mul_neg]; congr 1 <;> omega) (by rw [u1, Int.mul_neg]; congr 1 <;> omega)
      rw [u2]
      omega
    · obtain ⟨r1, r2, r3⟩ := rt_3 g x y z
      have kk := (key (p := x) (q := y) (r := z) ⟨x1, x2⟩ ⟨y1, y2⟩ ⟨z1, z2⟩ r1 r2).2
      generalize rtX 3 g x y z = A at *
      generalize rtY 3 g x y z = B at *
      generalize rtZ 3 g x y z = C at *
      obtain ⟨u1, u2, u3⟩ := rt_3 k A B C
      rw [hs, hc] at u1 u2
      have := kk (rtX 3 k A B C) (rtY 3 k A B C) (by rw [u1, Int.mul_neg]; congr 1 <;> omega) (by rw [u2, Int.mul_neg]; congr 1 <;> omega)
      rw [u3]
      omega
theorem back_angle (g : Int) : sinI ((-(g % 360000)) % 360000) = -sinI g ∧ cosI ((-(g % 360000)) % 360000) = cosI g := by
  rw [sinI_mod, cosI_mod, sinI_neg, cosI_neg, sinI_mod, cosI_mod]
  exact ⟨rfl, rfl⟩
theorem nv_ok {x y z : Int} (h : nvC x y z = 0) : okV (nvV x x y z) (nvV y x y z) (nvV z x y z) = true := by
  unfold nvC at h
  split at h
  · rename_i h1
    split at h
    · omega
    · rename_i h2
      have h3 := chC_ok h
      have e : ∀ v, nvV v x y z = nrm v x y z := fun v => by
        unfold nvV
        rw [h1]
        simp only [h2]
        exact (chV_ok h3).1
      rw [e, e, e]
      exact h3
  · omega
theorem nv_no {v x y z : Int} (h : nvC x y z ≠ 0) : nvV v x y z = 0 := by
  unfold nvC at h
  unfold nvV
  cases h1 : okV x y z
  · rfl
  · rw [h1] at h
    cases h2 : (lenF x y z == 0)
    · rw [h2] at h
      have h3 : okV (nrm x x y z) (nrm y x y z) (nrm z x y z) = false := by
        cases c : okV (nrm x x y z) (nrm y x y z) (nrm z x y z)
        · rfl
        · exact absurd (chV_ok (v := 0) c).2 h
      exact chV_no h3
    · rfl
theorem shB_0 (a b : Int) : shB a b 0 = a := by
  unfold shB
  rw [Int.mul_zero]
  have : divR 0 1000 = 0 := by decide
  omega
theorem bv_in {a b c x y z s : Int} (h1 : okV a b c = true) (h2 : okV x y z = true) (h3 : inB s 0 1000 = true) : bvX a b c x y z s = nvV (shB a x s) (shB a x s) (shB b y s) (shB c z s) ∧ bvY a b c x y z s = nvV (shB b y s) (shB a x s) (shB b y s) (shB c z s) ∧ bvZ a b c x y z s = nvV (shB c z s) (shB a x s) (shB b y s) (shB c z s) ∧ bvC a b c x y z s = nvC (shB a x s) (shB b y s) (shB c z s) := by
  have e := bv_yes h1 h2 h3
  unfold bvRet at e
  simp only [Value.tuple.injEq, Array.mk.injEq, List.cons.injEq, Value.agg.injEq, Value.int.injEq, true_and, and_true] at e
  exact ⟨e.1.1, e.1.2.1, e.1.2.2, e.2⟩
theorem blv_good {a b c x y z s : Int} (h : bvC a b c x y z s = 0) : okV (bvX a b c x y z s) (bvY a b c x y z s) (bvZ a b c x y z s) = true ∧ bvX a b c x y z 0 = nvV a a b c ∧ bvY a b c x y z 0 = nvV b a b c ∧ bvZ a b c x y z 0 = nvV c a b c ∧ bvC a b c x y z 0 = nvC a b c := by
  have h1 : okV a b c = true ∧ okV x y z = true ∧ inB s 0 1000 = true := by
    unfold bvC at h
    cases c1 : okV a b c
    · rw [c1] at h; simp at h
    · cases c2 : okV x y z
      · rw [c1, c2] at h; simp at h
      · cases c3 : inB s 0 1000
        · rw [c1, c2, c3] at h; simp at h
        · exact ⟨rfl, rfl, rfl⟩
  obtain ⟨c1, c2, c3⟩ := h1
  obtain ⟨e1, e2, e3, e4⟩ := bv_in c1 c2 c3
  obtain ⟨f1, f2, f3, f4⟩ := bv_in (s := 0) c1 c2 (inB_mk (by omega))
  rw [shB_0, shB_0, shB_0] at f1 f2 f3 f4
  rw [e4] at h
  rw [e1, e2, e3]
  exact ⟨nv_ok h, f1, f2, f3, f4⟩
theorem blv_bad {a b c x y z s : Int} (h : bvC a b c x y z s ≠ 0) : bvX a b c x y z s = 0 ∧ bvY a b c x y z s = 0 ∧ bvZ a b c x y z s = 0 := by
  cases c1 : (okV a b c && okV x y z && inB s 0 1000)
  · have e := bv_no (k := bvC a b c x y z s) c1 rfl
    unfold bvRet at e
    simp only [Value.tuple.injEq, Array.mk.injEq, List.cons.injEq, Value.agg.injEq, Value.int.injEq, true_and, and_true] at e
    exact ⟨e.1, e.2.1, e.2.2⟩
  · rw [Bool.and_eq_true, Bool.and_eq_true] at c1
    obtain ⟨e1, e2, e3, e4⟩ := bv_in c1.1.1 c1.1.2 c1.2
    rw [e4] at h
    rw [e1, e2, e3]
    exact ⟨nv_no h, nv_no h, nv_no h⟩
end Go.Proofs.YtconhjidpoimaaaDoor
