/-
  The law on sines and arcs.
-/
import Derived.Test.YtgeipijifcebmaaDoorArc2
import Derived.Test.YtgeipijifcebmaaDoorMlaw
import Derived.Test.YtgeipijifcebmaaDoorHelp
namespace Go.Proofs.YtgeipijifcebmaaDoor
set_option linter.unusedVariables false
set_option linter.unusedSimpArgs false
open Go.RowKit

theorem asn_spec {v : Int} (h : inB v (-1000000) 1000000 = true) : -90000 ≤ asnA v ∧ asnA v ≤ 90000 ∧ v ≤ sinI (asnA v) ∧ (asnA v = -90000 ∨ sinI (asnA v - 1) < v) := by
  have hb := inB_t h
  unfold asnA
  rw [if_pos h]
  obtain ⟨h1, h2, h3, h4⟩ := bs_spec (p := asnP v) 180000 (-90000) 90000 (by omega) (by omega)
  refine ⟨h1, h2, ?_, ?_⟩
  · rcases h3 with h3 | h3
    · rw [h3, show sinI 90000 = 1000000 by decide]; omega
    · exact of_decide_eq_true h3
  · rcases h4 with h4 | h4
    · exact .inl h4
    · have := of_decide_eq_false h4; right; omega
theorem acs_spec {v : Int} (h : inB v (-1000000) 1000000 = true) : 0 ≤ acsA v ∧ acsA v ≤ 180000 ∧ cosI (acsA v) ≤ v ∧ (acsA v = 0 ∨ v < cosI (acsA v - 1)) := by
  have hb := inB_t h
  unfold acsA
  rw [if_pos h]
  obtain ⟨h1, h2, h3, h4⟩ := bs_spec (p := acsP v) 180000 0 180000 (by omega) (by omega)
  refine ⟨h1, h2, ?_, ?_⟩
  · rcases h3 with h3 | h3
    · rw [h3, show cosI 180000 = -1000000 by decide]; omega
    · exact of_decide_eq_true h3
  · rcases h4 with h4 | h4
    · exact .inl h4
    · have := of_decide_eq_false h4; right; omega
theorem at_back {a : Int} (h0 : 0 ≤ a) (h1 : a < 360000) : atA (sinI a) (cosI a) = a ∧ atC (sinI a) (cosI a) = 0 := by
  have b1 := sinI_bd a
  have b2 := cosI_bd a
  have sq := sq_sum a
  have hat : atB (sinI a) (cosI a) = true := by unfold atB; rw [inB_mk ⟨by omega, by omega⟩, inB_mk ⟨by omega, by omega⟩]; rfl
  have hz : (cosI a == 0 && sinI a == 0) = false := by
    cases h : (cosI a == 0 && sinI a == 0)
    · rfl
    · simp only [Bool.and_eq_true, beq_iff_eq] at h
      rw [h.1, h.2] at sq
      omega
  unfold atA atC
  rw [hat, if_pos rfl, if_pos rfl, hz, arcF_back]
  refine ⟨?_, rfl⟩
  simp only [Bool.false_eq_true, if_false]
  omega
theorem btw_same (a : Int) : btw a a = 0 := by unfold btw; omega
theorem hof_aoh {h m : Int} (h0 : 0 ≤ h) (h1 : h < 24) (m0 : 0 ≤ m) (m1 : m < 60) : aohC h m = 0 ∧ aohA h m = h * 15000 + m * 250 ∧ hofA (h * 15000 + m * 250) = h ∧ hofB (h * 15000 + m * 250) = m ∧ hofC (h * 15000 + m * 250) = 0 := by
  have e1 : inB h 0 23 = true := inB_mk ⟨by omega, by omega⟩
  have e2 : inB m 0 59 = true := inB_mk ⟨by omega, by omega⟩
  have e3 : inB (h * 15000 + m * 250) 0 359999 = true := inB_mk ⟨by omega, by omega⟩
  unfold aohC aohA hofA hofB hofC
  rw [e1, e2, e3]
  simp
  omega
theorem mul_ok1' {a b : Int} (h1 : -1000000 ≤ a) (h2 : a ≤ 1000000) (h3 : -1000000 ≤ b) (h4 : b ≤ 1000000) : -1000000000000 ≤ a * b ∧ a * b ≤ 1000000000000 := by
  have := mul_bd2 h1 h2 h3 h4 (by omega) (by omega)
  omega
theorem ab_le {x b : Int} (h1 : -b ≤ x) (h2 : x ≤ b) : ab x ≤ b := by unfold ab; split <;> omega
theorem iSineEq (a v : Int) (w : World) (h1 : -9223372036854775808 ≤ a) (h2 : a ≤ 9223372036854775807) (hS : SinesIn w) (h : sinI a = v) :
    Calls Tryd.prog 16 #[.int .i64 a] w fun e w' => e = .returned (.int .i64 v) ∧ ∃ n, w' = w.drewN n := by subst h; exact iSineOf a w h1 h2 hS
theorem iCosEq (a v : Int) (w : World) (h1 : -9223372036854775808 ≤ a) (h2 : a ≤ 9223372036854775807) (hS : SinesIn w) (h : cosI a = v) :
    Calls Tryd.prog 18 #[.int .i64 a] w fun e w' => e = .returned (.int .i64 v) ∧ ∃ n, w' = w.drewN n := by subst h; exact iCosineOf a w h1 h2 hS
theorem iArcTanEq (y x a : Int) (w : World) (hS : SinesIn w) (h : atA y x = a ∧ atC y x = 0) :
    Calls Tryd.prog 35 #[.int .i64 y, .int .i64 x] w fun e w' => e = .returned (.tuple #[.int .i64 a, .int .i64 0]) ∧ ∃ n, w' = w.drewN n := by
  obtain ⟨rfl, h⟩ := h
  have := iArcTangent y x w hS
  rw [h] at this
  exact this
theorem iArcSineEq (v a c : Int) (w : World) (hS : SinesIn w) (h : asnA v = a ∧ unitC v = c) :
    Calls Tryd.prog 28 #[.int .i64 v] w fun e w' => e = .returned (.tuple #[.int .i64 a, .int .i64 c]) ∧ ∃ n, w' = w.drewN n := by
  obtain ⟨rfl, rfl⟩ := h; exact iArcSine v w hS
theorem iArcCosEq (v a c : Int) (w : World) (hS : SinesIn w) (h : acsA v = a ∧ unitC v = c) :
    Calls Tryd.prog 20 #[.int .i64 v] w fun e w' => e = .returned (.tuple #[.int .i64 a, .int .i64 c]) ∧ ∃ n, w' = w.drewN n := by
  obtain ⟨rfl, rfl⟩ := h; exact iArcCosine v w hS
theorem iBtwSame (a : Int) (w : World) (h1 : -9223372036854775808 ≤ a) (h2 : a ≤ 9223372036854775807) :
    Calls Tryd.prog 50 #[.int .i64 a, .int .i64 a] w fun e w' => e = .returned (.int .i64 0) ∧ w = w' := by
  have := iBetween a a w h1 h2 h1 h2
  rw [btw_same] at this
  exact this
theorem iAohEq (h m : Int) (w : World) (h0 : 0 ≤ h) (h1 : h < 24) (m0 : 0 ≤ m) (m1 : m < 60) :
    Calls Tryd.prog 53 #[.int .i64 h, .int .i64 m] w fun e w' => e = .returned (.tuple #[.int .i64 (h * 15000 + m * 250), .int .i64 0]) ∧ w = w' := by
  have := iAngleOfHours h m w
  obtain ⟨e1, e2, -, -, -⟩ := hof_aoh h0 h1 m0 m1
  rw [e1, e2] at this
  exact this
theorem iHofEq (h m : Int) (w : World) (h0 : 0 ≤ h) (h1 : h < 24) (m0 : 0 ≤ m) (m1 : m < 60) :
    Calls Tryd.prog 54 #[.int .i64 (h * 15000 + m * 250)] w fun e w' => e = .returned (.tuple #[.int .i64 h, .int .i64 m, .int .i64 0]) ∧ w = w' := by
  have := iHoursOf (h * 15000 + m * 250) w
  obtain ⟨-, -, e3, e4, e5⟩ := hof_aoh h0 h1 m0 m1
  rw [e3, e4, e5] at this
  exact this
/-- A drawn value of a sine. -/
theorem sDrawValue (B q m : Nat) (w : World) (S : Src w B q m) (hm : m ≤ 800000) :
    Calls Tryd.prog 86 #[.pointer (some ⟨q, 0, none⟩)] w (Drawn B q (m + 4) w fun v => -1000001 ≤ v ∧ v ≤ 1000001) := by
  go_enter Tryd.func86, Tryd.ntmps86
  go_wp2_with fail
  (with_reducible refine (sOne _ _ _ _ _ (by assumption) (by omega) (by omega) (by omega)).mono ?_)
  rintro e w' ⟨vb, rfl, hsrc, hbut⟩
  cases vb
  · go_wp2_with (go_at_call 94; (with_reducible refine (sPick _ _ _ _ _ (by assumption) (by omega) (by omega) (by omega)).mono ?_); rintro e w' ⟨v, rfl, ⟨hv1, hv2⟩, hsrc, hbut⟩)
    go_ret
    exact ⟨_, rfl, ⟨by omega, by omega⟩, hsrc.more (by omega), by (repeat (first | exact But.refl _ _ | assumption | (refine But.drewN ?_ _) | (refine But.drew ?_) | (refine But.alloc ?_ _) | (refine But.set ?_ _ _) | (refine But.trans ?_ (by assumption)) | (refine But.trans ?_ (But.of_below (by assumption)))))⟩
  · have hq := hsrc.lt
    go_wp2_with fail
    (with_reducible refine (sAmongNew _ _ _ [-1000000, 1000000, -1000001, 1000001, 0, 500000] _ _ _ _ hsrc (by simp) (by simp) (by omega) (by omega) (by omega)).mono ?_)
    rintro e w2 ⟨v, rfl, hv, hs2, hb2⟩
    go_wp2
    go_ret
    refine ⟨v, rfl, ?_, hs2, by (repeat (first | exact But.refl _ _ | assumption | (refine But.drewN ?_ _) | (refine But.drew ?_) | (refine But.alloc ?_ _) | (refine But.set ?_ _ _) | (refine But.trans ?_ (by assumption)) | (refine But.trans ?_ (But.of_below (by assumption)))))⟩
    simp at hv
    omega
theorem sDrawArcSine (a : Option Addr) (n c : Nat) (zs : List Int) (B : Nat) (w : World) (R : RowB w B a n zs) (hB : B ≤ w.heap.size) (hn : n ≤ 1048576) :
    Calls Tryd.prog 51 #[.slice a n c] w fun e w' => ∃ v : Int, e = .returned (.int .i64 v) ∧ (-1000001 ≤ v ∧ v ≤ 1000001) ∧ Below w.heap.size w w' := by
  go_enter Tryd.func51, Tryd.ntmps51
  go_wp2_with fail
  (with_reducible refine (sFromB _ _ _ _ _ _ R hB hn).mono ?_)
  rintro e w1 ⟨rfl, hsrc, hb1, hlt1⟩
  go_wp2_with fail
  (with_reducible refine (sDrawValue _ _ _ _ hsrc (by omega)).mono ?_)
  rintro e w2 ⟨v, rfl, hv, hs2, hb2⟩
  go_wp2
  go_ret
  exact ⟨v, rfl, hv, hb1.trans (hb2.below (Nat.le_refl _) (by omega))⟩
end Go.Proofs.YtgeipijifcebmaaDoor
