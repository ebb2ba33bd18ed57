/-
  The walk of the law on sidereal times.
-/
import Derived.Test.YtgeipijifcebmaaDoorLsid
namespace Go.Proofs.YtgeipijifcebmaaDoor
set_option linter.unusedVariables false
set_option linter.unusedSimpArgs false
open Go.RowKit
attribute [local go_sem ↓] Go.wp_at_zero Go.wp_at_succ
attribute [local go_sem] nn_e2 nn_e3 nn_e4 nn_f2 nn_f3 nn_f4 nn_l2 nn_l3 nn_l4 nn_m3 nn_m4 nn_k4

set_option maxRecDepth 100000 in
set_option maxHeartbeats 8000000 in
theorem linesTrue (a0 : Option Addr) (len0 cap0 : Nat) (a1 : Option Addr) (len1 cap1 : Nat) (w : World) (h : (tooLong len0 || tooLong len1) = true) :
    Calls Tryd.prog 13 #[.slice a0 len0 cap0, .slice a1 len1 cap1] w fun e w' => e = .returned (.bool true) ∧ Below w.heap.size w w' := by
  go_enter Tryd.func13, Tryd.ntmps13
  go_wp2_with (go_at_call 40; (with_reducible refine (lR8Long _ _ _ _ _ _ _).mono ?_); rintro e w' ⟨rfl, rfl⟩)
  go_ret
  exact ⟨rfl, by (repeat (first | exact Below.refl _ _ | assumption | (refine Below.drewN ?_ _) | (refine Below.drew ?_) | (refine Below.alloc ?_ (by first | (simp; done) | (simp; omega) | omega) _) | (refine Below.setCell ?_ (by first | (simp; done) | (simp; omega) | omega) _) | (refine Below.trans ?_ (Below.mono (by assumption) (by first | (simp; done) | (simp; omega) | omega)))))⟩
theorem sid_ok {d m l : Int} (h : okM d m = true) (l0 : 0 ≤ l) (l1 : l ≤ 359999) : sidA d m l = (99968 + l + turned (allOf d m)) % 360000 ∧ sidC d m l = 0 := by
  have e : inB l 0 359999 = true := inB_mk ⟨l0, l1⟩
  unfold sidA sidC
  rw [h, e]
  exact ⟨rfl, rfl⟩
theorem all_split {t : Int} (h0 : 0 ≤ t) (h1 : t < 8640000000000) : okM (t / 86400000) (t % 86400000) = true ∧ allOf (t / 86400000) (t % 86400000) = t := by
  unfold allOf
  exact ⟨okM_mk (by omega), by omega⟩
set_option maxRecDepth 100000 in
set_option maxHeartbeats 16000000 in
theorem walk_FnSidereal (a0 : Option Addr) (len0 cap0 : Nat) (z0 : List Int) (a1 : Option Addr) (len1 cap1 : Nat) (z1 : List Int) (w : World) (w0 : IsRow .u8 w a0 len0 cap0 z0) (w1 : IsRow .u8 w a1 len1 cap1 z1) (hS : SinesIn w) :
    Calls Tryd.prog 13 #[.slice a0 len0 cap0, .slice a1 len1 cap1] w fun e w' => e = .returned (.bool true) ∧ Below w.heap.size w w' := by
  by_cases hl : (tooLong len0 || tooLong len1) = true
  · exact linesTrue a0 len0 cap0 a1 len1 cap1 w hl
  replace hl : (tooLong len0 || tooLong len1) = false := by simpa using hl
  have HN : Hid (len0 ≤ 1048576 ∧ len1 ≤ 1048576) := by
    show _ ∧ _
    simp only [Bool.or_eq_false_iff] at hl
    exact ⟨by have := of_decide_eq_false hl.1; omega, by have := of_decide_eq_false hl.2; omega⟩
  have R0 := Lib.hid w0.rowB
  have R1 := Lib.hid w1.rowB
  clear w0 w1
  have HS := Lib.hid hS
  clear hS
  go_enter Tryd.func13, Tryd.ntmps13
  go_wp2_with fail
  (with_reducible refine (lR8Long _ _ _ _ _ _ _).mono ?_)
  rintro e w' ⟨rfl, rfl⟩
  go_wp2_with fail
  (with_reducible refine (sR8Moment _ _ _ _ _ R0.out HN.out.1).mono ?_)
  rintro e W1 ⟨d, m, rfl, hok, hb1⟩
  have hs1 := hb1.size
  obtain ⟨hc1, hf1⟩ := bcell hb1
  have hz01 : w.heap.size < W1.heap.size + 1 := by omega
  go_wp2_with fail
  (with_reducible refine (lR8Wide _ _ _ _ w.heap.size _ _ _ (RowB.low R1.out (by (repeat (first | exact Below.refl _ _ | assumption | (refine Below.drewN ?_ _) | (refine Below.drew ?_) | (refine Below.alloc ?_ (by first | (simp; done) | (simp; omega) | omega) _) | (refine Below.setCell ?_ (by first | (simp; done) | (simp; omega) | omega) _) | (refine Below.trans ?_ (Below.mono (by assumption) (by first | (simp; done) | (simp; omega) | omega))))))) (by omega) (by omega) (by omega) (by omega) HN.out.2).mono ?_)
  rintro e w' ⟨v1, rfl, ⟨v1a, v1b⟩, rfl⟩
  go_wp2_with fail
  (with_reducible refine (lR8Wide _ _ _ _ w.heap.size _ _ _ (RowB.low R1.out (by (repeat (first | exact Below.refl _ _ | assumption | (refine Below.drewN ?_ _) | (refine Below.drew ?_) | (refine Below.alloc ?_ (by first | (simp; done) | (simp; omega) | omega) _) | (refine Below.setCell ?_ (by first | (simp; done) | (simp; omega) | omega) _) | (refine Below.trans ?_ (Below.mono (by assumption) (by first | (simp; done) | (simp; omega) | omega))))))) (by omega) (by omega) (by omega) (by omega) HN.out.2).mono ?_)
  rintro e w' ⟨v2, rfl, ⟨v2a, v2b⟩, rfl⟩
  have HO := Lib.hid hok
  obtain ⟨⟨b1, b2⟩, b3, b4⟩ := okM_t hok
  clear hok
  have bt : 0 ≤ allOf d m ∧ allOf d m ≤ 8639999999999 := by unfold allOf; omega
  have HA : Hid (allOf d m = d * 86400000 + m) := rfl
  have QA := sid_ok HO.out (show (0 : Int) ≤ 0 by omega) (show (0 : Int) ≤ 359999 by omega)
  have QC := sid_ok HO.out (show 0 ≤ 6 * v1 by omega) (show 6 * v1 ≤ 359999 by omega)
  have tb := turned_bd bt.1 (show allOf d m ≤ 9000000000000 by omega)
  obtain ⟨A, hA⟩ : ∃ A, A = (99968 + 0 + turned (allOf d m)) % 360000 := ⟨_, rfl⟩
  obtain ⟨C, hC⟩ : ∃ C, C = (99968 + 6 * v1 + turned (allOf d m)) % 360000 := ⟨_, rfl⟩
  rw [← hA] at QA
  rw [← hC] at QC
  have QA := Lib.hid QA
  have QC := Lib.hid QC
  have A1 : 0 ≤ A := by omega
  have A2 : A < 360000 := by omega
  have AC : (A + 6 * v1) % 360000 = C := by omega
  obtain ⟨G, hG⟩ : ∃ G, G = turned (allOf d m) + (6 * v2 - (99968 + 6 * v1 + turned (allOf d m))) % 360000 := ⟨_, rfl⟩
  obtain ⟨t, ht, htl⟩ := next_ex (s := allOf d m) (g := G) (by omega)
  obtain ⟨tn1, tn2, tn3⟩ := next_near ht (by omega)
  have ht0 := ht.1
  have hns := ns_out (d := d) (m := m) (l := 6 * v1) (a := 6 * v2) (t := t) HO.out (inB_mk ⟨by omega, by omega⟩) (inB_mk ⟨by omega, by omega⟩) (by rw [← hG]; exact ht)
  clear ht
  by_cases hp : t < 8640000000000
  · simp only [if_pos hp] at hns
    obtain ⟨o1, o2⟩ := all_split (t := t) (by omega) hp
    obtain ⟨D, hD⟩ : ∃ D, t / 86400000 = D := ⟨_, rfl⟩
    obtain ⟨M, hM⟩ : ∃ M, t % 86400000 = M := ⟨_, rfl⟩
    rw [hD, hM] at hns o1 o2
    have HNS := Lib.hid hns
    have HO2 := Lib.hid o1
    have QB := sid_ok o1 (show 0 ≤ 6 * v1 by omega) (show 6 * v1 ≤ 359999 by omega)
    rw [o2] at QB
    obtain ⟨A', hA'⟩ : ∃ A, A = (99968 + 6 * v1 + turned t) % 360000 := ⟨_, rfl⟩
    rw [← hA'] at QB
    have QB := Lib.hid QB
    have A'1 : 0 ≤ A' := by omega
    have A'2 : A' < 360000 := by omega
    obtain ⟨E, hE⟩ : ∃ E, (A' - 6 * v2 + 360000) % 360000 = E := ⟨_, rfl⟩
    have E1 : E ≤ 1 := by omega
    obtain ⟨WT, hWT⟩ : ∃ WT, t - allOf d m = WT := ⟨_, rfl⟩
    have QM : Hid (mibA d m D M = WT ∧ mibC d m D M = 0) := by
      show _ ∧ _
      unfold mibA mibC
      rw [HO.out, o1, o2]
      exact ⟨hWT, rfl⟩
    have W1' : 0 ≤ WT := by omega
    have W2' : WT ≤ 86400000 := by omega
    have QS : Hid (sunA d m = sunF (allOf d m) ∧ okC d m = 0) := by show _ ∧ _; simp [sunA, okC, HO.out]
    have QT : Hid (seaA d m = sunF (allOf d m) / 90000 + 1 ∧ okC d m = 0) := by show _ ∧ _; simp [seaA, okC, HO.out]
    have sb := sunF_bd (allOf d m)
    obtain ⟨SU, hSU⟩ : ∃ SU, sunF (allOf d m) = SU := ⟨_, rfl⟩
    rw [hSU] at QS QT sb
    obtain ⟨s1, s2⟩ := sb
    by_cases hw : WT = 0
    · have FIN : True := trivial
      clear hns o1 o2 hA hC hG tn1 tn2 tn3 htl ht0 hD hM hA' hSU bt tb hl hp hWT
      subst hw
      go_wp2_with fail
      (with_reducible refine (iSidEq _ _ _ _ _ QA.out).mono ?_)
      rintro e W2 ⟨rfl, hb2⟩
      have hs2 := hb2.size
      (try simp at hs2)
      obtain ⟨hc2, hf2⟩ := bcell hb2
      (try have hz0_2 : w.heap.size < W2.heap.size := by omega)
      (try have hy0_2 : w.heap.size + 1 < W2.heap.size := by omega)
      (try have hz1_2 : W1.heap.size < W2.heap.size := by omega)
      (try have hy1_2 : W1.heap.size + 1 < W2.heap.size := by omega)
      go_wp2_with fail
      (with_reducible refine (iSidEq _ _ _ _ _ QC.out).mono ?_)
      rintro e W3 ⟨rfl, hb3⟩
      have hs3 := hb3.size
      (try simp at hs3)
      obtain ⟨hc3, hf3⟩ := bcell hb3
      (try have hz0_3 : w.heap.size < W3.heap.size := by omega)
      (try have hy0_3 : w.heap.size + 1 < W3.heap.size := by omega)
      (try have hz1_3 : W1.heap.size < W3.heap.size := by omega)
      (try have hy1_3 : W1.heap.size + 1 < W3.heap.size := by omega)
      (try have hz2_3 : W2.heap.size < W3.heap.size := by omega)
      (try have hy2_3 : W2.heap.size + 1 < W3.heap.size := by omega)
      go_wp2_with fail
      (with_reducible refine (iNextEq _ _ _ _ _ _ _ _ HNS.out).mono ?_)
      rintro e W4 ⟨rfl, hb4⟩
      have hs4 := hb4.size
      (try simp at hs4)
      obtain ⟨hc4, hf4⟩ := bcell hb4
      (try have hz0_4 : w.heap.size < W4.heap.size := by omega)
      (try have hy0_4 : w.heap.size + 1 < W4.heap.size := by omega)
      (try have hz1_4 : W1.heap.size < W4.heap.size := by omega)
      (try have hy1_4 : W1.heap.size + 1 < W4.heap.size := by omega)
      (try have hz2_4 : W2.heap.size < W4.heap.size := by omega)
      (try have hy2_4 : W2.heap.size + 1 < W4.heap.size := by omega)
      (try have hz3_4 : W3.heap.size < W4.heap.size := by omega)
      (try have hy3_4 : W3.heap.size + 1 < W4.heap.size := by omega)
      go_wp2_with fail
      (with_reducible refine (sMibEq _ _ _ _ _ _ QM.out).mono ?_)
      rintro e W5 ⟨rfl, hb5⟩
      have hs5 := hb5.size
      (try simp at hs5)
      obtain ⟨hc5, hf5⟩ := bcell hb5
      (try have hz0_5 : w.heap.size < W5.heap.size := by omega)
      (try have hy0_5 : w.heap.size + 1 < W5.heap.size := by omega)
      (try have hz1_5 : W1.heap.size < W5.heap.size := by omega)
      (try have hy1_5 : W1.heap.size + 1 < W5.heap.size := by omega)
      (try have hz2_5 : W2.heap.size < W5.heap.size := by omega)
      (try have hy2_5 : W2.heap.size + 1 < W5.heap.size := by omega)
      (try have hz3_5 : W3.heap.size < W5.heap.size := by omega)
      (try have hy3_5 : W3.heap.size + 1 < W5.heap.size := by omega)
      (try have hz4_5 : W4.heap.size < W5.heap.size := by omega)
      (try have hy4_5 : W4.heap.size + 1 < W5.heap.size := by omega)
      go_wp2_with fail
      (with_reducible refine (iSidEq _ _ _ _ _ QB.out).mono ?_)
      rintro e W6 ⟨rfl, hb6⟩
      have hs6 := hb6.size
      (try simp at hs6)
      obtain ⟨hc6, hf6⟩ := bcell hb6
      (try have hz0_6 : w.heap.size < W6.heap.size := by omega)
      (try have hy0_6 : w.heap.size + 1 < W6.heap.size := by omega)
      (try have hz1_6 : W1.heap.size < W6.heap.size := by omega)
      (try have hy1_6 : W1.heap.size + 1 < W6.heap.size := by omega)
      (try have hz2_6 : W2.heap.size < W6.heap.size := by omega)
      (try have hy2_6 : W2.heap.size + 1 < W6.heap.size := by omega)
      (try have hz3_6 : W3.heap.size < W6.heap.size := by omega)
      (try have hy3_6 : W3.heap.size + 1 < W6.heap.size := by omega)
      (try have hz4_6 : W4.heap.size < W6.heap.size := by omega)
      (try have hy4_6 : W4.heap.size + 1 < W6.heap.size := by omega)
      (try have hz5_6 : W5.heap.size < W6.heap.size := by omega)
      (try have hy5_6 : W5.heap.size + 1 < W6.heap.size := by omega)
      go_wp2_with fail
      (with_reducible refine (iSunEq _ _ _ _ (HS.out.below (by (repeat (first | exact Below.refl _ _ | assumption | (refine Below.drewN ?_ _) | (refine Below.drew ?_) | (refine Below.alloc ?_ (by first | (simp; done) | (simp; omega) | omega) _) | (refine Below.setCell ?_ (by first | (simp; done) | (simp; omega) | omega) _) | (refine Below.trans ?_ (Below.mono (by assumption) (by first | (simp; done) | (simp; omega) | omega))))))) QS.out).mono ?_)
      rintro e W7 ⟨rfl, hb7⟩
      have hs7 := hb7.size
      (try simp at hs7)
      obtain ⟨hc7, hf7⟩ := bcell hb7
      (try have hz0_7 : w.heap.size < W7.heap.size := by omega)
      (try have hy0_7 : w.heap.size + 1 < W7.heap.size := by omega)
      (try have hz1_7 : W1.heap.size < W7.heap.size := by omega)
      (try have hy1_7 : W1.heap.size + 1 < W7.heap.size := by omega)
      (try have hz2_7 : W2.heap.size < W7.heap.size := by omega)
      (try have hy2_7 : W2.heap.size + 1 < W7.heap.size := by omega)
      (try have hz3_7 : W3.heap.size < W7.heap.size := by omega)
      (try have hy3_7 : W3.heap.size + 1 < W7.heap.size := by omega)
      (try have hz4_7 : W4.heap.size < W7.heap.size := by omega)
      (try have hy4_7 : W4.heap.size + 1 < W7.heap.size := by omega)
      (try have hz5_7 : W5.heap.size < W7.heap.size := by omega)
      (try have hy5_7 : W5.heap.size + 1 < W7.heap.size := by omega)
      (try have hz6_7 : W6.heap.size < W7.heap.size := by omega)
      (try have hy6_7 : W6.heap.size + 1 < W7.heap.size := by omega)
      go_wp2_with fail
      (with_reducible refine (iSeaEq _ _ _ _ (HS.out.below (by (repeat (first | exact Below.refl _ _ | assumption | (refine Below.drewN ?_ _) | (refine Below.drew ?_) | (refine Below.alloc ?_ (by first | (simp; done) | (simp; omega) | omega) _) | (refine Below.setCell ?_ (by first | (simp; done) | (simp; omega) | omega) _) | (refine Below.trans ?_ (Below.mono (by assumption) (by first | (simp; done) | (simp; omega) | omega))))))) QT.out).mono ?_)
      rintro e W8 ⟨rfl, hb8⟩
      have hs8 := hb8.size
      (try simp at hs8)
      obtain ⟨hc8, hf8⟩ := bcell hb8
      (try have hz0_8 : w.heap.size < W8.heap.size := by omega)
      (try have hy0_8 : w.heap.size + 1 < W8.heap.size := by omega)
      (try have hz1_8 : W1.heap.size < W8.heap.size := by omega)
      (try have hy1_8 : W1.heap.size + 1 < W8.heap.size := by omega)
      (try have hz2_8 : W2.heap.size < W8.heap.size := by omega)
      (try have hy2_8 : W2.heap.size + 1 < W8.heap.size := by omega)
      (try have hz3_8 : W3.heap.size < W8.heap.size := by omega)
      (try have hy3_8 : W3.heap.size + 1 < W8.heap.size := by omega)
      (try have hz4_8 : W4.heap.size < W8.heap.size := by omega)
      (try have hy4_8 : W4.heap.size + 1 < W8.heap.size := by omega)
      (try have hz5_8 : W5.heap.size < W8.heap.size := by omega)
      (try have hy5_8 : W5.heap.size + 1 < W8.heap.size := by omega)
      (try have hz6_8 : W6.heap.size < W8.heap.size := by omega)
      (try have hy6_8 : W6.heap.size + 1 < W8.heap.size := by omega)
      (try have hz7_8 : W7.heap.size < W8.heap.size := by omega)
      (try have hy7_8 : W7.heap.size + 1 < W8.heap.size := by omega)
      go_wp2
      go_ret
      exact ⟨rfl, by (repeat (first | exact Below.refl _ _ | assumption | (refine Below.drewN ?_ _) | (refine Below.drew ?_) | (refine Below.alloc ?_ (by first | (simp; done) | (simp; omega) | omega) _) | (refine Below.setCell ?_ (by first | (simp; done) | (simp; omega) | omega) _) | (refine Below.trans ?_ (Below.mono (by assumption) (by first | (simp; done) | (simp; omega) | omega)))))⟩
    · have hw' : (WT == 0) = false := by simp [hw]
      obtain ⟨p1, p2⟩ := all_split (t := t - 1) (by omega) (by omega)
      obtain ⟨D', hD'⟩ : ∃ D, (t - 1) / 86400000 = D := ⟨_, rfl⟩
      obtain ⟨M', hM'⟩ : ∃ M, (t - 1) % 86400000 = M := ⟨_, rfl⟩
      have QP : Hid (mafD D M (-1) = D' ∧ mafM D M (-1) = M' ∧ mafC D M (-1) = 0) := by
        show _ ∧ _ ∧ _
        have e0 : mafC D M (-1) = 0 := by
          unfold mafC
          rw [o1, o2, inB_mk (show -8640000000000 ≤ (-1 : Int) ∧ (-1 : Int) ≤ 8640000000000 by omega), inB_mk (show 0 ≤ t + -1 ∧ t + -1 ≤ 8639999999999 by omega)]
          rfl
        unfold mafD mafM
        rw [e0, o2, if_pos rfl, if_pos rfl, ← hD', ← hM']
        exact ⟨by congr 1, by congr 1, rfl⟩
      rw [hD', hM'] at p1 p2
      have QR := sid_ok p1 (show 0 ≤ 6 * v1 by omega) (show 6 * v1 ≤ 359999 by omega)
      rw [p2] at QR
      obtain ⟨A3, hA3⟩ : ∃ A, A = (99968 + 6 * v1 + turned (t - 1)) % 360000 := ⟨_, rfl⟩
      rw [← hA3] at QR
      have QR := Lib.hid QR
      have A31 : 0 ≤ A3 := by omega
      have A32 : A3 < 360000 := by omega
      have tn3 := tn3 (by omega)
      obtain ⟨F, hF⟩ : ∃ F, (6 * v2 - A3 + 360000) % 360000 = F := ⟨_, rfl⟩
      have F1 : 1 ≤ F := by omega
      have F2 : F ≤ 2 := by omega
      clear hns o1 o2 hA hC hG tn1 tn2 tn3 htl ht0 hD hM hA' hSU bt tb hl hp hWT hD' hM' p1 p2 hA3 hw
      go_wp2_with fail
      (with_reducible refine (iSidEq _ _ _ _ _ QA.out).mono ?_)
      rintro e W2 ⟨rfl, hb2⟩
      have hs2 := hb2.size
      (try simp at hs2)
      obtain ⟨hc2, hf2⟩ := bcell hb2
      (try have hz0_2 : w.heap.size < W2.heap.size := by omega)
      (try have hy0_2 : w.heap.size + 1 < W2.heap.size := by omega)
      (try have hz1_2 : W1.heap.size < W2.heap.size := by omega)
      (try have hy1_2 : W1.heap.size + 1 < W2.heap.size := by omega)
      go_wp2_with fail
      (with_reducible refine (iSidEq _ _ _ _ _ QC.out).mono ?_)
      rintro e W3 ⟨rfl, hb3⟩
      have hs3 := hb3.size
      (try simp at hs3)
      obtain ⟨hc3, hf3⟩ := bcell hb3
      (try have hz0_3 : w.heap.size < W3.heap.size := by omega)
      (try have hy0_3 : w.heap.size + 1 < W3.heap.size := by omega)
      (try have hz1_3 : W1.heap.size < W3.heap.size := by omega)
      (try have hy1_3 : W1.heap.size + 1 < W3.heap.size := by omega)
      (try have hz2_3 : W2.heap.size < W3.heap.size := by omega)
      (try have hy2_3 : W2.heap.size + 1 < W3.heap.size := by omega)
      go_wp2_with fail
      (with_reducible refine (iNextEq _ _ _ _ _ _ _ _ HNS.out).mono ?_)
      rintro e W4 ⟨rfl, hb4⟩
      have hs4 := hb4.size
      (try simp at hs4)
      obtain ⟨hc4, hf4⟩ := bcell hb4
      (try have hz0_4 : w.heap.size < W4.heap.size := by omega)
      (try have hy0_4 : w.heap.size + 1 < W4.heap.size := by omega)
      (try have hz1_4 : W1.heap.size < W4.heap.size := by omega)
      (try have hy1_4 : W1.heap.size + 1 < W4.heap.size := by omega)
      (try have hz2_4 : W2.heap.size < W4.heap.size := by omega)
      (try have hy2_4 : W2.heap.size + 1 < W4.heap.size := by omega)
      (try have hz3_4 : W3.heap.size < W4.heap.size := by omega)
      (try have hy3_4 : W3.heap.size + 1 < W4.heap.size := by omega)
      go_wp2_with fail
      (with_reducible refine (sMibEq _ _ _ _ _ _ QM.out).mono ?_)
      rintro e W5 ⟨rfl, hb5⟩
      have hs5 := hb5.size
      (try simp at hs5)
      obtain ⟨hc5, hf5⟩ := bcell hb5
      (try have hz0_5 : w.heap.size < W5.heap.size := by omega)
      (try have hy0_5 : w.heap.size + 1 < W5.heap.size := by omega)
      (try have hz1_5 : W1.heap.size < W5.heap.size := by omega)
      (try have hy1_5 : W1.heap.size + 1 < W5.heap.size := by omega)
      (try have hz2_5 : W2.heap.size < W5.heap.size := by omega)
      (try have hy2_5 : W2.heap.size + 1 < W5.heap.size := by omega)
      (try have hz3_5 : W3.heap.size < W5.heap.size := by omega)
      (try have hy3_5 : W3.heap.size + 1 < W5.heap.size := by omega)
      (try have hz4_5 : W4.heap.size < W5.heap.size := by omega)
      (try have hy4_5 : W4.heap.size + 1 < W5.heap.size := by omega)
      go_wp2_with fail
      (with_reducible refine (iSidEq _ _ _ _ _ QB.out).mono ?_)
      rintro e W6 ⟨rfl, hb6⟩
      have hs6 := hb6.size
      (try simp at hs6)
      obtain ⟨hc6, hf6⟩ := bcell hb6
      (try have hz0_6 : w.heap.size < W6.heap.size := by omega)
      (try have hy0_6 : w.heap.size + 1 < W6.heap.size := by omega)
      (try have hz1_6 : W1.heap.size < W6.heap.size := by omega)
      (try have hy1_6 : W1.heap.size + 1 < W6.heap.size := by omega)
      (try have hz2_6 : W2.heap.size < W6.heap.size := by omega)
      (try have hy2_6 : W2.heap.size + 1 < W6.heap.size := by omega)
      (try have hz3_6 : W3.heap.size < W6.heap.size := by omega)
      (try have hy3_6 : W3.heap.size + 1 < W6.heap.size := by omega)
      (try have hz4_6 : W4.heap.size < W6.heap.size := by omega)
      (try have hy4_6 : W4.heap.size + 1 < W6.heap.size := by omega)
      (try have hz5_6 : W5.heap.size < W6.heap.size := by omega)
      (try have hy5_6 : W5.heap.size + 1 < W6.heap.size := by omega)
      go_wp2_with fail
      (with_reducible refine (iSunEq _ _ _ _ (HS.out.below (by (repeat (first | exact Below.refl _ _ | assumption | (refine Below.drewN ?_ _) | (refine Below.drew ?_) | (refine Below.alloc ?_ (by first | (simp; done) | (simp; omega) | omega) _) | (refine Below.setCell ?_ (by first | (simp; done) | (simp; omega) | omega) _) | (refine Below.trans ?_ (Below.mono (by assumption) (by first | (simp; done) | (simp; omega) | omega))))))) QS.out).mono ?_)
      rintro e W7 ⟨rfl, hb7⟩
      have hs7 := hb7.size
      (try simp at hs7)
      obtain ⟨hc7, hf7⟩ := bcell hb7
      (try have hz0_7 : w.heap.size < W7.heap.size := by omega)
      (try have hy0_7 : w.heap.size + 1 < W7.heap.size := by omega)
      (try have hz1_7 : W1.heap.size < W7.heap.size := by omega)
      (try have hy1_7 : W1.heap.size + 1 < W7.heap.size := by omega)
      (try have hz2_7 : W2.heap.size < W7.heap.size := by omega)
      (try have hy2_7 : W2.heap.size + 1 < W7.heap.size := by omega)
      (try have hz3_7 : W3.heap.size < W7.heap.size := by omega)
      (try have hy3_7 : W3.heap.size + 1 < W7.heap.size := by omega)
      (try have hz4_7 : W4.heap.size < W7.heap.size := by omega)
      (try have hy4_7 : W4.heap.size + 1 < W7.heap.size := by omega)
      (try have hz5_7 : W5.heap.size < W7.heap.size := by omega)
      (try have hy5_7 : W5.heap.size + 1 < W7.heap.size := by omega)
      (try have hz6_7 : W6.heap.size < W7.heap.size := by omega)
      (try have hy6_7 : W6.heap.size + 1 < W7.heap.size := by omega)
      go_wp2_with fail
      (with_reducible refine (iSeaEq _ _ _ _ (HS.out.below (by (repeat (first | exact Below.refl _ _ | assumption | (refine Below.drewN ?_ _) | (refine Below.drew ?_) | (refine Below.alloc ?_ (by first | (simp; done) | (simp; omega) | omega) _) | (refine Below.setCell ?_ (by first | (simp; done) | (simp; omega) | omega) _) | (refine Below.trans ?_ (Below.mono (by assumption) (by first | (simp; done) | (simp; omega) | omega))))))) QT.out).mono ?_)
      rintro e W8 ⟨rfl, hb8⟩
      have hs8 := hb8.size
      (try simp at hs8)
      obtain ⟨hc8, hf8⟩ := bcell hb8
      (try have hz0_8 : w.heap.size < W8.heap.size := by omega)
      (try have hy0_8 : w.heap.size + 1 < W8.heap.size := by omega)
      (try have hz1_8 : W1.heap.size < W8.heap.size := by omega)
      (try have hy1_8 : W1.heap.size + 1 < W8.heap.size := by omega)
      (try have hz2_8 : W2.heap.size < W8.heap.size := by omega)
      (try have hy2_8 : W2.heap.size + 1 < W8.heap.size := by omega)
      (try have hz3_8 : W3.heap.size < W8.heap.size := by omega)
      (try have hy3_8 : W3.heap.size + 1 < W8.heap.size := by omega)
      (try have hz4_8 : W4.heap.size < W8.heap.size := by omega)
      (try have hy4_8 : W4.heap.size + 1 < W8.heap.size := by omega)
      (try have hz5_8 : W5.heap.size < W8.heap.size := by omega)
      (try have hy5_8 : W5.heap.size + 1 < W8.heap.size := by omega)
      (try have hz6_8 : W6.heap.size < W8.heap.size := by omega)
      (try have hy6_8 : W6.heap.size + 1 < W8.heap.size := by omega)
      (try have hz7_8 : W7.heap.size < W8.heap.size := by omega)
      (try have hy7_8 : W7.heap.size + 1 < W8.heap.size := by omega)
      go_wp2_with fail
      (with_reducible refine (sMafEq _ _ _ _ _ _ (by omega) (by omega) QP.out).mono ?_)
      rintro e W9 ⟨rfl, hb9⟩
      have hs9 := hb9.size
      (try simp at hs9)
      obtain ⟨hc9, hf9⟩ := bcell hb9
      (try have hz0_9 : w.heap.size < W9.heap.size := by omega)
      (try have hy0_9 : w.heap.size + 1 < W9.heap.size := by omega)
      (try have hz1_9 : W1.heap.size < W9.heap.size := by omega)
      (try have hy1_9 : W1.heap.size + 1 < W9.heap.size := by omega)
      (try have hz2_9 : W2.heap.size < W9.heap.size := by omega)
      (try have hy2_9 : W2.heap.size + 1 < W9.heap.size := by omega)
      (try have hz3_9 : W3.heap.size < W9.heap.size := by omega)
      (try have hy3_9 : W3.heap.size + 1 < W9.heap.size := by omega)
      (try have hz4_9 : W4.heap.size < W9.heap.size := by omega)
      (try have hy4_9 : W4.heap.size + 1 < W9.heap.size := by omega)
      (try have hz5_9 : W5.heap.size < W9.heap.size := by omega)
      (try have hy5_9 : W5.heap.size + 1 < W9.heap.size := by omega)
      (try have hz6_9 : W6.heap.size < W9.heap.size := by omega)
      (try have hy6_9 : W6.heap.size + 1 < W9.heap.size := by omega)
      (try have hz7_9 : W7.heap.size < W9.heap.size := by omega)
      (try have hy7_9 : W7.heap.size + 1 < W9.heap.size := by omega)
      (try have hz8_9 : W8.heap.size < W9.heap.size := by omega)
      (try have hy8_9 : W8.heap.size + 1 < W9.heap.size := by omega)
      go_wp2_with fail
      (with_reducible refine (iSidEq _ _ _ _ _ QR.out).mono ?_)
      rintro e W10 ⟨rfl, hb10⟩
      have hs10 := hb10.size
      (try simp at hs10)
      obtain ⟨hc10, hf10⟩ := bcell hb10
      (try have hz0_10 : w.heap.size < W10.heap.size := by omega)
      (try have hy0_10 : w.heap.size + 1 < W10.heap.size := by omega)
      (try have hz1_10 : W1.heap.size < W10.heap.size := by omega)
      (try have hy1_10 : W1.heap.size + 1 < W10.heap.size := by omega)
      (try have hz2_10 : W2.heap.size < W10.heap.size := by omega)
      (try have hy2_10 : W2.heap.size + 1 < W10.heap.size := by omega)
      (try have hz3_10 : W3.heap.size < W10.heap.size := by omega)
      (try have hy3_10 : W3.heap.size + 1 < W10.heap.size := by omega)
      (try have hz4_10 : W4.heap.size < W10.heap.size := by omega)
      (try have hy4_10 : W4.heap.size + 1 < W10.heap.size := by omega)
      (try have hz5_10 : W5.heap.size < W10.heap.size := by omega)
      (try have hy5_10 : W5.heap.size + 1 < W10.heap.size := by omega)
      (try have hz6_10 : W6.heap.size < W10.heap.size := by omega)
      (try have hy6_10 : W6.heap.size + 1 < W10.heap.size := by omega)
      (try have hz7_10 : W7.heap.size < W10.heap.size := by omega)
      (try have hy7_10 : W7.heap.size + 1 < W10.heap.size := by omega)
      (try have hz8_10 : W8.heap.size < W10.heap.size := by omega)
      (try have hy8_10 : W8.heap.size + 1 < W10.heap.size := by omega)
      (try have hz9_10 : W9.heap.size < W10.heap.size := by omega)
      (try have hy9_10 : W9.heap.size + 1 < W10.heap.size := by omega)
      go_wp2
      go_ret
      exact ⟨rfl, by (repeat (first | exact Below.refl _ _ | assumption | (refine Below.drewN ?_ _) | (refine Below.drew ?_) | (refine Below.alloc ?_ (by first | (simp; done) | (simp; omega) | omega) _) | (refine Below.setCell ?_ (by first | (simp; done) | (simp; omega) | omega) _) | (refine Below.trans ?_ (Below.mono (by assumption) (by first | (simp; done) | (simp; omega) | omega)))))⟩
  · simp only [if_neg hp] at hns
    have HNS := Lib.hid hns
    have hd : 99998 ≤ d := by have := HA.out; omega
    clear hns hA hC hG tn1 tn2 tn3 htl ht0 bt tb hl hp
    go_wp2_with fail
    (with_reducible refine (iSidEq _ _ _ _ _ QA.out).mono ?_)
    rintro e W2 ⟨rfl, hb2⟩
    have hs2 := hb2.size
    (try simp at hs2)
    obtain ⟨hc2, hf2⟩ := bcell hb2
    (try have hz0_2 : w.heap.size < W2.heap.size := by omega)
    (try have hy0_2 : w.heap.size + 1 < W2.heap.size := by omega)
    (try have hz1_2 : W1.heap.size < W2.heap.size := by omega)
    (try have hy1_2 : W1.heap.size + 1 < W2.heap.size := by omega)
    go_wp2_with fail
    (with_reducible refine (iSidEq _ _ _ _ _ QC.out).mono ?_)
    rintro e W3 ⟨rfl, hb3⟩
    have hs3 := hb3.size
    (try simp at hs3)
    obtain ⟨hc3, hf3⟩ := bcell hb3
    (try have hz0_3 : w.heap.size < W3.heap.size := by omega)
    (try have hy0_3 : w.heap.size + 1 < W3.heap.size := by omega)
    (try have hz1_3 : W1.heap.size < W3.heap.size := by omega)
    (try have hy1_3 : W1.heap.size + 1 < W3.heap.size := by omega)
    (try have hz2_3 : W2.heap.size < W3.heap.size := by omega)
    (try have hy2_3 : W2.heap.size + 1 < W3.heap.size := by omega)
    go_wp2_with fail
    (with_reducible refine (iNextEq _ _ _ _ _ _ _ _ HNS.out).mono ?_)
    rintro e W4 ⟨rfl, hb4⟩
    have hs4 := hb4.size
    (try simp at hs4)
    obtain ⟨hc4, hf4⟩ := bcell hb4
    (try have hz0_4 : w.heap.size < W4.heap.size := by omega)
    (try have hy0_4 : w.heap.size + 1 < W4.heap.size := by omega)
    (try have hz1_4 : W1.heap.size < W4.heap.size := by omega)
    (try have hy1_4 : W1.heap.size + 1 < W4.heap.size := by omega)
    (try have hz2_4 : W2.heap.size < W4.heap.size := by omega)
    (try have hy2_4 : W2.heap.size + 1 < W4.heap.size := by omega)
    (try have hz3_4 : W3.heap.size < W4.heap.size := by omega)
    (try have hy3_4 : W3.heap.size + 1 < W4.heap.size := by omega)
    go_wp2
    go_ret
    exact ⟨rfl, by (repeat (first | exact Below.refl _ _ | assumption | (refine Below.drewN ?_ _) | (refine Below.drew ?_) | (refine Below.alloc ?_ (by first | (simp; done) | (simp; omega) | omega) _) | (refine Below.setCell ?_ (by first | (simp; done) | (simp; omega) | omega) _) | (refine Below.trans ?_ (Below.mono (by assumption) (by first | (simp; done) | (simp; omega) | omega)))))⟩
end Go.Proofs.YtgeipijifcebmaaDoor
