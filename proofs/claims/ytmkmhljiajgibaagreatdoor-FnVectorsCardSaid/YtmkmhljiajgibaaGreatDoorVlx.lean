/-
  The law on vectors: the walk.
-/
import Derived.Test.YtmkmhljiajgibaaGreatDoorVlw
namespace Go.Proofs.YtmkmhljiajgibaaGreatDoor
set_option linter.unusedVariables false
set_option linter.unusedSimpArgs false
open Go.RowKit
attribute [local go_sem ↓] Go.wp_at_zero Go.wp_at_succ
attribute [local go_sem] nn_e2 nn_e3 nn_e4 nn_f2 nn_f3 nn_f4 nn_l2 nn_l3 nn_l4 nn_m3 nn_m4 nn_k4

set_option maxRecDepth 100000 in
set_option maxHeartbeats 4000000 in
theorem vecsTrue (a0 : Option Addr) (len0 cap0 : Nat) (a1 : Option Addr) (len1 cap1 : Nat) (w : World) (h : tooLong len0 = true ∨ (tooLong len0 = false ∧ tooLong len1 = true)) :
    Calls Tryz.prog 3 #[.slice a0 len0 cap0, .slice a1 len1 cap1] w fun e w' => e = .returned (.bool true) ∧ Below w.heap.size w w' := by
  rcases h with h | ⟨h, h'⟩
  all_goals
    go_enter Tryz.func3, Tryz.ntmps3
    go_wp2_with (go_at_call 4; (with_reducible refine (lB10Long _ _ _ _).mono ?_); rintro e w' ⟨rfl, rfl⟩)
    go_ret
    exact ⟨rfl, by (repeat (first | exact Below.refl _ _ | assumption | (refine Below.drewN ?_ _) | (refine Below.drew ?_) | (refine Below.alloc ?_ (by first | (simp; done) | (simp; omega) | omega) _) | (refine Below.setCell ?_ (by first | (simp; done) | (simp; omega) | omega) _) | (refine Below.trans ?_ (Below.mono (by assumption) (by first | (simp; done) | (simp; omega) | omega)))))⟩
set_option maxRecDepth 100000 in
set_option maxHeartbeats 16000000 in
theorem walk_FnVectors (a0 : Option Addr) (len0 cap0 : Nat) (z0 : List Int) (a1 : Option Addr) (len1 cap1 : Nat) (z1 : List Int) (w : World) (w0 : IsRow .u8 w a0 len0 cap0 z0) (w1 : IsRow .u8 w a1 len1 cap1 z1) (hT : TabIn w) (hE : ErrIn w) (hS : SinesIn w) (hM : MaxIn w) :
    Calls Tryz.prog 3 #[.slice a0 len0 cap0, .slice a1 len1 cap1] w fun e w' => e = .returned (.bool true) ∧ Below w.heap.size w w' := by
  by_cases g0 : 1048576 < len0
  · exact vecsTrue _ _ _ _ _ _ _ (.inl (tooLong_t g0))
  by_cases g1 : 1048576 < len1
  · exact vecsTrue _ _ _ _ _ _ _ (.inr ⟨tooLong_f (by omega), tooLong_t g1⟩)
  have l0 : tooLong len0 = false := tooLong_f (by omega)
  have l1 : tooLong len1 = false := tooLong_f (by omega)
  have N0 : Hid (len0 ≤ 1048576) := by show _ ≤ _; omega
  have N1 : Hid (len1 ≤ 1048576) := by show _ ≤ _; omega
  clear g0 g1
  have R0 := Lib.hid w0.rowB
  have R1 := Lib.hid w1.rowB
  clear w0 w1
  have HS := Lib.hid hS
  have HT := Lib.hid hT
  have HE := Lib.hid hE
  have HM := Lib.hid hM
  clear hS hT hE hM
  go_enter Tryz.func3, Tryz.ntmps3
  go_wp2_with fail
  (with_reducible refine (lB10Long _ _ _ _).mono ?_)
  rintro e w' ⟨rfl, rfl⟩
  go_wp2_with fail
  (with_reducible refine (lB10Long _ _ _ _).mono ?_)
  rintro e w' ⟨rfl, rfl⟩
  go_wp2_with fail
  (with_reducible refine (lB10Wide _ _ _ _ w.heap.size _ _ _ (RowB.low R0.out (by (repeat (first | exact Below.refl _ _ | assumption | (refine Below.drewN ?_ _) | (refine Below.drew ?_) | (refine Below.alloc ?_ (by first | (simp; done) | (simp; omega) | omega) _) | (refine Below.setCell ?_ (by first | (simp; done) | (simp; omega) | omega) _) | (refine Below.trans ?_ (Below.mono (by assumption) (by first | (simp; done) | (simp; omega) | omega))))))) (by omega) (by omega) (by omega) (by omega) N0.out).mono ?_)
  rintro e w' ⟨L, rfl, ⟨L1, L2⟩, rfl⟩
  go_wp2_with fail
  (with_reducible refine (lB10Wide _ _ _ _ w.heap.size _ _ _ (RowB.low R0.out (by (repeat (first | exact Below.refl _ _ | assumption | (refine Below.drewN ?_ _) | (refine Below.drew ?_) | (refine Below.alloc ?_ (by first | (simp; done) | (simp; omega) | omega) _) | (refine Below.setCell ?_ (by first | (simp; done) | (simp; omega) | omega) _) | (refine Below.trans ?_ (Below.mono (by assumption) (by first | (simp; done) | (simp; omega) | omega))))))) (by omega) (by omega) (by omega) (by omega) N0.out).mono ?_)
  rintro e w' ⟨t, rfl, ⟨t1, t2⟩, rfl⟩
  obtain ⟨b, hb⟩ : ∃ b, t - 89000 = b := ⟨_, rfl⟩
  have b1 : -89000 ≤ b := by omega
  have b2 : b ≤ 89000 := by omega
  have wb : IntKind.i64.wrap b = b := IntWalk.i64_in _ (by omega)
  obtain ⟨X, Y, Z, A, B, N, d1, d2, d3, d4, d5, d6, d7, d8, d9, ⟨A1, A2⟩, hbt, ⟨e1, e2⟩, e3, e4⟩ := dir_back (L := L) b1 b2
  have HDI := Lib.hid (And.intro d1 (And.intro d2 (And.intro d3 d4)))
  have HAG := Lib.hid (And.intro d5 (And.intro d6 d7))
  have HLE := Lib.hid (And.intro d8 d9)
  clear d1 d2 d3 d4 d5 d6 d7 d8 d9
  obtain ⟨D, hD⟩ : ∃ D, btw A L = D := ⟨_, rfl⟩
  rw [hD] at hbt
  have HBT := Lib.hid hD
  obtain ⟨E, hE⟩ : ∃ E, B - b = E := ⟨_, rfl⟩
  obtain ⟨F, hF⟩ : ∃ E, N - 1000000 = E := ⟨_, rfl⟩
  have E1 : -20 ≤ E := by omega
  have E2 : E ≤ 20 := by omega
  have F1 : -200 ≤ F := by omega
  have F2 : F ≤ 200 := by omega
  have B1 : -90000 ≤ B := by omega
  have B2 : B ≤ 90000 := by omega
  have M1 : 999800 ≤ N := by omega
  have M2 : N ≤ 1000200 := by omega
  have wE : IntKind.i64.wrap E = E := IntWalk.i64_in _ (by omega)
  have wF : IntKind.i64.wrap F = F := IntWalk.i64_in _ (by omega)
  obtain ⟨EA, hEA⟩ : ∃ D, ab E = D := ⟨_, rfl⟩
  have EA1 : EA ≤ 20 := by rw [← hEA]; exact ab_bd E1 E2
  have HEA := Lib.hid hEA
  obtain ⟨FA, hFA⟩ : ∃ D, ab F = D := ⟨_, rfl⟩
  have FA1 : FA ≤ 200 := by rw [← hFA]; exact ab_bd F1 F2
  have HFA := Lib.hid hFA
  clear hD hEA hFA e1 e2 e3 e4
  go_wp2_with fail
  (with_reducible refine (iDiE _ _ _ _ _ _ (by omega) (by omega) (HS.out.below (by (repeat (first | exact Below.refl _ _ | assumption | (refine Below.drewN ?_ _) | (refine Below.drew ?_) | (refine Below.alloc ?_ (by first | (simp; done) | (simp; omega) | omega) _) | (refine Below.setCell ?_ (by first | (simp; done) | (simp; omega) | omega) _) | (refine Below.trans ?_ (Below.mono (by assumption) (by first | (simp; done) | (simp; omega) | omega))))))) HDI.out).mono ?_)
  rintro e W1 ⟨rfl, hb1⟩
  have hs1 := hb1.size
  (try simp at hs1)
  obtain ⟨hc1, hf1⟩ := bcell hb1
  (try have hz0_1 : w.heap.size < W1.heap.size := by omega)
  (try have hy0_1 : w.heap.size + 1 < W1.heap.size := by omega)
  go_wp2_with fail
  (with_reducible refine (iAgE _ _ _ _ _ _ (HS.out.below (by (repeat (first | exact Below.refl _ _ | assumption | (refine Below.drewN ?_ _) | (refine Below.drew ?_) | (refine Below.alloc ?_ (by first | (simp; done) | (simp; omega) | omega) _) | (refine Below.setCell ?_ (by first | (simp; done) | (simp; omega) | omega) _) | (refine Below.trans ?_ (Below.mono (by assumption) (by first | (simp; done) | (simp; omega) | omega))))))) HAG.out).mono ?_)
  rintro e W2 ⟨rfl, hb2⟩
  have hs2 := hb2.size
  (try simp at hs2)
  obtain ⟨hc2, hf2⟩ := bcell hb2
  (try have hz0_2 : w.heap.size < W2.heap.size := by omega)
  (try have hy0_2 : w.heap.size + 1 < W2.heap.size := by omega)
  (try have hz1_2 : W1.heap.size < W2.heap.size := by omega)
  (try have hy1_2 : W1.heap.size + 1 < W2.heap.size := by omega)
  go_wp2_with fail
  (with_reducible refine (iLeE _ _ _ _ _ HLE.out).mono ?_)
  rintro e W3 ⟨rfl, hb3⟩
  have hs3 := hb3.size
  (try simp at hs3)
  obtain ⟨hc3, hf3⟩ := bcell hb3
  (try have hz0_3 : w.heap.size < W3.heap.size := by omega)
  (try have hy0_3 : w.heap.size + 1 < W3.heap.size := by omega)
  (try have hz1_3 : W1.heap.size < W3.heap.size := by omega)
  (try have hy1_3 : W1.heap.size + 1 < W3.heap.size := by omega)
  (try have hz2_3 : W2.heap.size < W3.heap.size := by omega)
  (try have hy2_3 : W2.heap.size + 1 < W3.heap.size := by omega)
  go_wp2_with fail
  (with_reducible refine (iBtE _ _ _ _ (by omega) (by omega) (by omega) (by omega) HBT.out).mono ?_)
  rintro e w' ⟨rfl, rfl⟩
  go_wp2_with fail
  (with_reducible refine (lAbE _ _ _ (by omega) (by omega) HEA.out).mono ?_)
  rintro e w' ⟨rfl, rfl⟩
  go_wp2_with fail
  (with_reducible refine (lAbE _ _ _ (by omega) (by omega) HFA.out).mono ?_)
  rintro e w' ⟨rfl, rfl⟩
  clear hb hE hF t1 t2 L1 L2 b1 b2 E1 E2 F1 F2 A1 A2 B1 B2 M1 M2
  go_wp2_with fail
  (with_reducible refine (sDrawSep _ _ _ _ _ ((R1.out.low (by (repeat (first | exact Below.refl _ _ | assumption | (refine Below.drewN ?_ _) | (refine Below.drew ?_) | (refine Below.alloc ?_ (by first | (simp; done) | (simp; omega) | omega) _) | (refine Below.setCell ?_ (by first | (simp; done) | (simp; omega) | omega) _) | (refine Below.trans ?_ (Below.mono (by assumption) (by first | (simp; done) | (simp; omega) | omega))))))).up (by first | omega | (simp; omega))) N1.out).mono ?_)
  rintro e W4 ⟨x, y, z, x', y', z', rfl, hb4⟩
  have hs4 := hb4.size
  (try simp at hs4)
  obtain ⟨hc4, hf4⟩ := bcell hb4
  (try have hzA_4 : w.heap.size < W4.heap.size := by omega)
  (try have hzB_4 : w.heap.size + 1 < W4.heap.size := by omega)
  (try have hzC_4 : w.heap.size + 1 + 1 < W4.heap.size := by omega)
  (try have hzD_4 : w.heap.size + 1 + 1 + 1 < W4.heap.size := by omega)
  obtain ⟨P, hP⟩ : ∃ X, seA x y z x' y' z' = X := ⟨_, rfl⟩
  obtain ⟨K5, hK5⟩ : ∃ X, seC x y z x' y' z' = X := ⟨_, rfl⟩
  obtain ⟨P1, P2⟩ := se_bd x y z x' y' z'
  rw [hP] at P1 P2
  have HSE := Lib.hid (And.intro hP hK5)
  have HSF := Lib.hid (And.intro ((se_sym x y z x' y' z').1.trans hP) ((se_sym x y z x' y' z').2.trans hK5))
  obtain ⟨Q, hQ⟩ : ∃ X, dtA x y z x' y' z' = X := ⟨_, rfl⟩
  obtain ⟨K6, hK6⟩ : ∃ X, dtC x y z x' y' z' = X := ⟨_, rfl⟩
  have HDE := Lib.hid (And.intro hQ hK6)
  have HDF := Lib.hid (And.intro ((dt_sym x y z x' y' z').1.trans hQ) ((dt_sym x y z x' y' z').2.trans hK6))
  obtain ⟨K8, hK8⟩ : ∃ X, coC x y z x y z = X := ⟨_, rfl⟩
  have HCO := Lib.hid hK8
  obtain ⟨T, hTx⟩ : ∃ T, tx (vtT x y z) = T := ⟨_, rfl⟩
  have HTs : Hid (T.size ≤ 1048576) := by show _ ≤ _; rw [← hTx]; exact vt_len x y z
  have HTB : Hid ((okV x y z = true → rvB T.data.toList = true ∧ rvV T.data.toList 0 = x ∧ rvV T.data.toList 1 = y ∧ rvV T.data.toList 2 = z) ∧ (okV x y z = false → rvB T.data.toList = false)) := by show _ ∧ _; rw [← hTx, tx_list]; exact vt_back x y z
  have HTx := Lib.hid hTx
  clear hP hK5 hQ hK6 hK8 hTx
  go_wp2_with fail
  (with_reducible refine (iSeE _ _ _ _ _ _ _ _ _ (HS.out.below (by (repeat (first | exact Below.refl _ _ | assumption | (refine Below.drewN ?_ _) | (refine Below.drew ?_) | (refine Below.alloc ?_ (by first | (simp; done) | (simp; omega) | omega) _) | (refine Below.setCell ?_ (by first | (simp; done) | (simp; omega) | omega) _) | (refine Below.trans ?_ (Below.mono (by assumption) (by first | (simp; done) | (simp; omega) | omega))))))) HSE.out).mono ?_)
  rintro e W5 ⟨rfl, hb5⟩
  have hs5 := hb5.size
  (try simp at hs5)
  obtain ⟨hc5, hf5⟩ := bcell hb5
  (try have hz0_5 : w.heap.size < W5.heap.size := by omega)
  (try have hy0_5 : w.heap.size + 1 < W5.heap.size := by omega)
  (try have hz1_5 : W1.heap.size < W5.heap.size := by omega)
  (try have hy1_5 : W1.heap.size + 1 < W5.heap.size := by omega)
  (try have hz2_5 : W2.heap.size < W5.heap.size := by omega)
  (try have hy2_5 : W2.heap.size + 1 < W5.heap.size := by omega)
  (try have hz3_5 : W3.heap.size < W5.heap.size := by omega)
  (try have hy3_5 : W3.heap.size + 1 < W5.heap.size := by omega)
  (try have hz4_5 : W4.heap.size < W5.heap.size := by omega)
  (try have hy4_5 : W4.heap.size + 1 < W5.heap.size := by omega)
  go_wp2_with fail
  (with_reducible refine (iSeE _ _ _ _ _ _ _ _ _ (HS.out.below (by (repeat (first | exact Below.refl _ _ | assumption | (refine Below.drewN ?_ _) | (refine Below.drew ?_) | (refine Below.alloc ?_ (by first | (simp; done) | (simp; omega) | omega) _) | (refine Below.setCell ?_ (by first | (simp; done) | (simp; omega) | omega) _) | (refine Below.trans ?_ (Below.mono (by assumption) (by first | (simp; done) | (simp; omega) | omega))))))) HSF.out).mono ?_)
  rintro e W6 ⟨rfl, hb6⟩
  have hs6 := hb6.size
  (try simp at hs6)
  obtain ⟨hc6, hf6⟩ := bcell hb6
  (try have hz0_6 : w.heap.size < W6.heap.size := by omega)
  (try have hy0_6 : w.heap.size + 1 < W6.heap.size := by omega)
  (try have hz1_6 : W1.heap.size < W6.heap.size := by omega)
  (try have hy1_6 : W1.heap.size + 1 < W6.heap.size := by omega)
  (try have hz2_6 : W2.heap.size < W6.heap.size := by omega)
  (try have hy2_6 : W2.heap.size + 1 < W6.heap.size := by omega)
  (try have hz3_6 : W3.heap.size < W6.heap.size := by omega)
  (try have hy3_6 : W3.heap.size + 1 < W6.heap.size := by omega)
  (try have hz4_6 : W4.heap.size < W6.heap.size := by omega)
  (try have hy4_6 : W4.heap.size + 1 < W6.heap.size := by omega)
  (try have hz5_6 : W5.heap.size < W6.heap.size := by omega)
  (try have hy5_6 : W5.heap.size + 1 < W6.heap.size := by omega)
  go_wp2_with fail
  (with_reducible refine (iDtE _ _ _ _ _ _ _ _ _ HDE.out).mono ?_)
  rintro e W7 ⟨rfl, hb7⟩
  have hs7 := hb7.size
  (try simp at hs7)
  obtain ⟨hc7, hf7⟩ := bcell hb7
  (try have hz0_7 : w.heap.size < W7.heap.size := by omega)
  (try have hy0_7 : w.heap.size + 1 < W7.heap.size := by omega)
  (try have hz1_7 : W1.heap.size < W7.heap.size := by omega)
  (try have hy1_7 : W1.heap.size + 1 < W7.heap.size := by omega)
  (try have hz2_7 : W2.heap.size < W7.heap.size := by omega)
  (try have hy2_7 : W2.heap.size + 1 < W7.heap.size := by omega)
  (try have hz3_7 : W3.heap.size < W7.heap.size := by omega)
  (try have hy3_7 : W3.heap.size + 1 < W7.heap.size := by omega)
  (try have hz4_7 : W4.heap.size < W7.heap.size := by omega)
  (try have hy4_7 : W4.heap.size + 1 < W7.heap.size := by omega)
  (try have hz5_7 : W5.heap.size < W7.heap.size := by omega)
  (try have hy5_7 : W5.heap.size + 1 < W7.heap.size := by omega)
  (try have hz6_7 : W6.heap.size < W7.heap.size := by omega)
  (try have hy6_7 : W6.heap.size + 1 < W7.heap.size := by omega)
  go_wp2_with fail
  (with_reducible refine (iDtE _ _ _ _ _ _ _ _ _ HDF.out).mono ?_)
  rintro e W8 ⟨rfl, hb8⟩
  have hs8 := hb8.size
  (try simp at hs8)
  obtain ⟨hc8, hf8⟩ := bcell hb8
  (try have hz0_8 : w.heap.size < W8.heap.size := by omega)
  (try have hy0_8 : w.heap.size + 1 < W8.heap.size := by omega)
  (try have hz1_8 : W1.heap.size < W8.heap.size := by omega)
  (try have hy1_8 : W1.heap.size + 1 < W8.heap.size := by omega)
  (try have hz2_8 : W2.heap.size < W8.heap.size := by omega)
  (try have hy2_8 : W2.heap.size + 1 < W8.heap.size := by omega)
  (try have hz3_8 : W3.heap.size < W8.heap.size := by omega)
  (try have hy3_8 : W3.heap.size + 1 < W8.heap.size := by omega)
  (try have hz4_8 : W4.heap.size < W8.heap.size := by omega)
  (try have hy4_8 : W4.heap.size + 1 < W8.heap.size := by omega)
  (try have hz5_8 : W5.heap.size < W8.heap.size := by omega)
  (try have hy5_8 : W5.heap.size + 1 < W8.heap.size := by omega)
  (try have hz6_8 : W6.heap.size < W8.heap.size := by omega)
  (try have hy6_8 : W6.heap.size + 1 < W8.heap.size := by omega)
  (try have hz7_8 : W7.heap.size < W8.heap.size := by omega)
  (try have hy7_8 : W7.heap.size + 1 < W8.heap.size := by omega)
  go_wp2_with fail
  (with_reducible refine (iCoE _ _ _ _ _ HCO.out).mono ?_)
  rintro e W9 ⟨rfl, hb9⟩
  have hs9 := hb9.size
  (try simp at hs9)
  obtain ⟨hc9, hf9⟩ := bcell hb9
  (try have hz0_9 : w.heap.size < W9.heap.size := by omega)
  (try have hy0_9 : w.heap.size + 1 < W9.heap.size := by omega)
  (try have hz1_9 : W1.heap.size < W9.heap.size := by omega)
  (try have hy1_9 : W1.heap.size + 1 < W9.heap.size := by omega)
  (try have hz2_9 : W2.heap.size < W9.heap.size := by omega)
  (try have hy2_9 : W2.heap.size + 1 < W9.heap.size := by omega)
  (try have hz3_9 : W3.heap.size < W9.heap.size := by omega)
  (try have hy3_9 : W3.heap.size + 1 < W9.heap.size := by omega)
  (try have hz4_9 : W4.heap.size < W9.heap.size := by omega)
  (try have hy4_9 : W4.heap.size + 1 < W9.heap.size := by omega)
  (try have hz5_9 : W5.heap.size < W9.heap.size := by omega)
  (try have hy5_9 : W5.heap.size + 1 < W9.heap.size := by omega)
  (try have hz6_9 : W6.heap.size < W9.heap.size := by omega)
  (try have hy6_9 : W6.heap.size + 1 < W9.heap.size := by omega)
  (try have hz7_9 : W7.heap.size < W9.heap.size := by omega)
  (try have hy7_9 : W7.heap.size + 1 < W9.heap.size := by omega)
  (try have hz8_9 : W8.heap.size < W9.heap.size := by omega)
  (try have hy8_9 : W8.heap.size + 1 < W9.heap.size := by omega)
  go_wp2_with fail
  (with_reducible refine (iVtE _ _ _ _ _ (HT.out.below (by (repeat (first | exact Below.refl _ _ | assumption | (refine Below.drewN ?_ _) | (refine Below.drew ?_) | (refine Below.alloc ?_ (by first | (simp; done) | (simp; omega) | omega) _) | (refine Below.setCell ?_ (by first | (simp; done) | (simp; omega) | omega) _) | (refine Below.trans ?_ (Below.mono (by assumption) (by first | (simp; done) | (simp; omega) | omega))))))) HTx.out).mono ?_)
  rintro e W10 ⟨rfl, hb10⟩
  have hs10 := hb10.size
  (try simp at hs10)
  obtain ⟨hc10, hf10⟩ := bcell hb10
  (try have hz0_10 : w.heap.size < W10.heap.size := by omega)
  (try have hy0_10 : w.heap.size + 1 < W10.heap.size := by omega)
  (try have hz1_10 : W1.heap.size < W10.heap.size := by omega)
  (try have hy1_10 : W1.heap.size + 1 < W10.heap.size := by omega)
  (try have hz2_10 : W2.heap.size < W10.heap.size := by omega)
  (try have hy2_10 : W2.heap.size + 1 < W10.heap.size := by omega)
  (try have hz3_10 : W3.heap.size < W10.heap.size := by omega)
  (try have hy3_10 : W3.heap.size + 1 < W10.heap.size := by omega)
  (try have hz4_10 : W4.heap.size < W10.heap.size := by omega)
  (try have hy4_10 : W4.heap.size + 1 < W10.heap.size := by omega)
  (try have hz5_10 : W5.heap.size < W10.heap.size := by omega)
  (try have hy5_10 : W5.heap.size + 1 < W10.heap.size := by omega)
  (try have hz6_10 : W6.heap.size < W10.heap.size := by omega)
  (try have hy6_10 : W6.heap.size + 1 < W10.heap.size := by omega)
  (try have hz7_10 : W7.heap.size < W10.heap.size := by omega)
  (try have hy7_10 : W7.heap.size + 1 < W10.heap.size := by omega)
  (try have hz8_10 : W8.heap.size < W10.heap.size := by omega)
  (try have hy8_10 : W8.heap.size + 1 < W10.heap.size := by omega)
  (try have hz9_10 : W9.heap.size < W10.heap.size := by omega)
  (try have hy9_10 : W9.heap.size + 1 < W10.heap.size := by omega)
  cases hv : okV x y z
  · have HV := Lib.hid hv
    have HRV := Lib.hid (HTB.out.2 hv)
    clear hv
    go_wp2_with fail
    (with_reducible refine (iRvF _ _ HTs.out (HT.out.below (by (repeat (first | exact Below.refl _ _ | assumption | (refine Below.drewN ?_ _) | (refine Below.drew ?_) | (refine Below.alloc ?_ (by first | (simp; done) | (simp; omega) | omega) _) | (refine Below.setCell ?_ (by first | (simp; done) | (simp; omega) | omega) _) | (refine Below.trans ?_ (Below.mono (by assumption) (by first | (simp; done) | (simp; omega) | omega))))))) (HE.out.below (by (repeat (first | exact Below.refl _ _ | assumption | (refine Below.drewN ?_ _) | (refine Below.drew ?_) | (refine Below.alloc ?_ (by first | (simp; done) | (simp; omega) | omega) _) | (refine Below.setCell ?_ (by first | (simp; done) | (simp; omega) | omega) _) | (refine Below.trans ?_ (Below.mono (by assumption) (by first | (simp; done) | (simp; omega) | omega))))))) (HM.out.below (by (repeat (first | exact Below.refl _ _ | assumption | (refine Below.drewN ?_ _) | (refine Below.drew ?_) | (refine Below.alloc ?_ (by first | (simp; done) | (simp; omega) | omega) _) | (refine Below.setCell ?_ (by first | (simp; done) | (simp; omega) | omega) _) | (refine Below.trans ?_ (Below.mono (by assumption) (by first | (simp; done) | (simp; omega) | omega))))))) HRV.out).mono ?_)
    rintro e W11 ⟨rfl, hb11⟩
    have hs11 := hb11.size
    (try simp at hs11)
    obtain ⟨hc11, hf11⟩ := bcell hb11
    (try have hz0_11 : w.heap.size < W11.heap.size := by omega)
    (try have hy0_11 : w.heap.size + 1 < W11.heap.size := by omega)
    (try have hz1_11 : W1.heap.size < W11.heap.size := by omega)
    (try have hy1_11 : W1.heap.size + 1 < W11.heap.size := by omega)
    (try have hz2_11 : W2.heap.size < W11.heap.size := by omega)
    (try have hy2_11 : W2.heap.size + 1 < W11.heap.size := by omega)
    (try have hz3_11 : W3.heap.size < W11.heap.size := by omega)
    (try have hy3_11 : W3.heap.size + 1 < W11.heap.size := by omega)
    (try have hz4_11 : W4.heap.size < W11.heap.size := by omega)
    (try have hy4_11 : W4.heap.size + 1 < W11.heap.size := by omega)
    (try have hz5_11 : W5.heap.size < W11.heap.size := by omega)
    (try have hy5_11 : W5.heap.size + 1 < W11.heap.size := by omega)
    (try have hz6_11 : W6.heap.size < W11.heap.size := by omega)
    (try have hy6_11 : W6.heap.size + 1 < W11.heap.size := by omega)
    (try have hz7_11 : W7.heap.size < W11.heap.size := by omega)
    (try have hy7_11 : W7.heap.size + 1 < W11.heap.size := by omega)
    (try have hz8_11 : W8.heap.size < W11.heap.size := by omega)
    (try have hy8_11 : W8.heap.size + 1 < W11.heap.size := by omega)
    (try have hz9_11 : W9.heap.size < W11.heap.size := by omega)
    (try have hy9_11 : W9.heap.size + 1 < W11.heap.size := by omega)
    (try have hz10_11 : W10.heap.size < W11.heap.size := by omega)
    (try have hy10_11 : W10.heap.size + 1 < W11.heap.size := by omega)
    go_wp2_with fail
    (with_reducible refine (sVvE _ _ _ _ _ HV.out).mono ?_)
    rintro e W12 ⟨rfl, hb12⟩
    have hs12 := hb12.size
    (try simp at hs12)
    obtain ⟨hc12, hf12⟩ := bcell hb12
    (try have hz0_12 : w.heap.size < W12.heap.size := by omega)
    (try have hy0_12 : w.heap.size + 1 < W12.heap.size := by omega)
    (try have hz1_12 : W1.heap.size < W12.heap.size := by omega)
    (try have hy1_12 : W1.heap.size + 1 < W12.heap.size := by omega)
    (try have hz2_12 : W2.heap.size < W12.heap.size := by omega)
    (try have hy2_12 : W2.heap.size + 1 < W12.heap.size := by omega)
    (try have hz3_12 : W3.heap.size < W12.heap.size := by omega)
    (try have hy3_12 : W3.heap.size + 1 < W12.heap.size := by omega)
    (try have hz4_12 : W4.heap.size < W12.heap.size := by omega)
    (try have hy4_12 : W4.heap.size + 1 < W12.heap.size := by omega)
    (try have hz5_12 : W5.heap.size < W12.heap.size := by omega)
    (try have hy5_12 : W5.heap.size + 1 < W12.heap.size := by omega)
    (try have hz6_12 : W6.heap.size < W12.heap.size := by omega)
    (try have hy6_12 : W6.heap.size + 1 < W12.heap.size := by omega)
    (try have hz7_12 : W7.heap.size < W12.heap.size := by omega)
    (try have hy7_12 : W7.heap.size + 1 < W12.heap.size := by omega)
    (try have hz8_12 : W8.heap.size < W12.heap.size := by omega)
    (try have hy8_12 : W8.heap.size + 1 < W12.heap.size := by omega)
    (try have hz9_12 : W9.heap.size < W12.heap.size := by omega)
    (try have hy9_12 : W9.heap.size + 1 < W12.heap.size := by omega)
    (try have hz10_12 : W10.heap.size < W12.heap.size := by omega)
    (try have hy10_12 : W10.heap.size + 1 < W12.heap.size := by omega)
    (try have hz11_12 : W11.heap.size < W12.heap.size := by omega)
    (try have hy11_12 : W11.heap.size + 1 < W12.heap.size := by omega)
    by_cases hK8 : K8 = 0
    · subst hK8
      go_wp2
      go_ret
      exact ⟨by first | rfl | simp, by (repeat (first | exact Below.refl _ _ | assumption | (refine Below.drewN ?_ _) | (refine Below.drew ?_) | (refine Below.alloc ?_ (by first | (simp; done) | (simp; omega) | omega) _) | (refine Below.setCell ?_ (by first | (simp; done) | (simp; omega) | omega) _) | (refine Below.trans ?_ (Below.mono (by assumption) (by first | (simp; done) | (simp; omega) | omega)))))⟩
    · have hK8b : (K8 == 0) = false := beq_false_of_ne hK8
      go_wp2
      all_goals go_ret
      all_goals exact ⟨by first | rfl | simp, by (repeat (first | exact Below.refl _ _ | assumption | (refine Below.drewN ?_ _) | (refine Below.drew ?_) | (refine Below.alloc ?_ (by first | (simp; done) | (simp; omega) | omega) _) | (refine Below.setCell ?_ (by first | (simp; done) | (simp; omega) | omega) _) | (refine Below.trans ?_ (Below.mono (by assumption) (by first | (simp; done) | (simp; omega) | omega)))))⟩
  · have HV := Lib.hid hv
    have HRV := Lib.hid (HTB.out.1 hv)
    clear hv
    go_wp2_with fail
    (with_reducible refine (iRvE _ _ _ _ _ HTs.out (HT.out.below (by (repeat (first | exact Below.refl _ _ | assumption | (refine Below.drewN ?_ _) | (refine Below.drew ?_) | (refine Below.alloc ?_ (by first | (simp; done) | (simp; omega) | omega) _) | (refine Below.setCell ?_ (by first | (simp; done) | (simp; omega) | omega) _) | (refine Below.trans ?_ (Below.mono (by assumption) (by first | (simp; done) | (simp; omega) | omega))))))) (HE.out.below (by (repeat (first | exact Below.refl _ _ | assumption | (refine Below.drewN ?_ _) | (refine Below.drew ?_) | (refine Below.alloc ?_ (by first | (simp; done) | (simp; omega) | omega) _) | (refine Below.setCell ?_ (by first | (simp; done) | (simp; omega) | omega) _) | (refine Below.trans ?_ (Below.mono (by assumption) (by first | (simp; done) | (simp; omega) | omega))))))) (HM.out.below (by (repeat (first | exact Below.refl _ _ | assumption | (refine Below.drewN ?_ _) | (refine Below.drew ?_) | (refine Below.alloc ?_ (by first | (simp; done) | (simp; omega) | omega) _) | (refine Below.setCell ?_ (by first | (simp; done) | (simp; omega) | omega) _) | (refine Below.trans ?_ (Below.mono (by assumption) (by first | (simp; done) | (simp; omega) | omega))))))) HRV.out).mono ?_)
    rintro e W11 ⟨rfl, hb11⟩
    have hs11 := hb11.size
    (try simp at hs11)
    obtain ⟨hc11, hf11⟩ := bcell hb11
    (try have hz0_11 : w.heap.size < W11.heap.size := by omega)
    (try have hy0_11 : w.heap.size + 1 < W11.heap.size := by omega)
    (try have hz1_11 : W1.heap.size < W11.heap.size := by omega)
    (try have hy1_11 : W1.heap.size + 1 < W11.heap.size := by omega)
    (try have hz2_11 : W2.heap.size < W11.heap.size := by omega)
    (try have hy2_11 : W2.heap.size + 1 < W11.heap.size := by omega)
    (try have hz3_11 : W3.heap.size < W11.heap.size := by omega)
    (try have hy3_11 : W3.heap.size + 1 < W11.heap.size := by omega)
    (try have hz4_11 : W4.heap.size < W11.heap.size := by omega)
    (try have hy4_11 : W4.heap.size + 1 < W11.heap.size := by omega)
    (try have hz5_11 : W5.heap.size < W11.heap.size := by omega)
    (try have hy5_11 : W5.heap.size + 1 < W11.heap.size := by omega)
    (try have hz6_11 : W6.heap.size < W11.heap.size := by omega)
    (try have hy6_11 : W6.heap.size + 1 < W11.heap.size := by omega)
    (try have hz7_11 : W7.heap.size < W11.heap.size := by omega)
    (try have hy7_11 : W7.heap.size + 1 < W11.heap.size := by omega)
    (try have hz8_11 : W8.heap.size < W11.heap.size := by omega)
    (try have hy8_11 : W8.heap.size + 1 < W11.heap.size := by omega)
    (try have hz9_11 : W9.heap.size < W11.heap.size := by omega)
    (try have hy9_11 : W9.heap.size + 1 < W11.heap.size := by omega)
    (try have hz10_11 : W10.heap.size < W11.heap.size := by omega)
    (try have hy10_11 : W10.heap.size + 1 < W11.heap.size := by omega)
    go_wp2_with fail
    (with_reducible refine (sVvE _ _ _ _ _ HV.out).mono ?_)
    rintro e W12 ⟨rfl, hb12⟩
    have hs12 := hb12.size
    (try simp at hs12)
    obtain ⟨hc12, hf12⟩ := bcell hb12
    (try have hz0_12 : w.heap.size < W12.heap.size := by omega)
    (try have hy0_12 : w.heap.size + 1 < W12.heap.size := by omega)
    (try have hz1_12 : W1.heap.size < W12.heap.size := by omega)
    (try have hy1_12 : W1.heap.size + 1 < W12.heap.size := by omega)
    (try have hz2_12 : W2.heap.size < W12.heap.size := by omega)
    (try have hy2_12 : W2.heap.size + 1 < W12.heap.size := by omega)
    (try have hz3_12 : W3.heap.size < W12.heap.size := by omega)
    (try have hy3_12 : W3.heap.size + 1 < W12.heap.size := by omega)
    (try have hz4_12 : W4.heap.size < W12.heap.size := by omega)
    (try have hy4_12 : W4.heap.size + 1 < W12.heap.size := by omega)
    (try have hz5_12 : W5.heap.size < W12.heap.size := by omega)
    (try have hy5_12 : W5.heap.size + 1 < W12.heap.size := by omega)
    (try have hz6_12 : W6.heap.size < W12.heap.size := by omega)
    (try have hy6_12 : W6.heap.size + 1 < W12.heap.size := by omega)
    (try have hz7_12 : W7.heap.size < W12.heap.size := by omega)
    (try have hy7_12 : W7.heap.size + 1 < W12.heap.size := by omega)
    (try have hz8_12 : W8.heap.size < W12.heap.size := by omega)
    (try have hy8_12 : W8.heap.size + 1 < W12.heap.size := by omega)
    (try have hz9_12 : W9.heap.size < W12.heap.size := by omega)
    (try have hy9_12 : W9.heap.size + 1 < W12.heap.size := by omega)
    (try have hz10_12 : W10.heap.size < W12.heap.size := by omega)
    (try have hy10_12 : W10.heap.size + 1 < W12.heap.size := by omega)
    (try have hz11_12 : W11.heap.size < W12.heap.size := by omega)
    (try have hy11_12 : W11.heap.size + 1 < W12.heap.size := by omega)
    by_cases hK8 : K8 = 0
    · subst hK8
      go_wp2
      go_ret
      exact ⟨by first | rfl | simp, by (repeat (first | exact Below.refl _ _ | assumption | (refine Below.drewN ?_ _) | (refine Below.drew ?_) | (refine Below.alloc ?_ (by first | (simp; done) | (simp; omega) | omega) _) | (refine Below.setCell ?_ (by first | (simp; done) | (simp; omega) | omega) _) | (refine Below.trans ?_ (Below.mono (by assumption) (by first | (simp; done) | (simp; omega) | omega)))))⟩
    · have hK8b : (K8 == 0) = false := beq_false_of_ne hK8
      go_wp2
      all_goals go_ret
      all_goals exact ⟨by first | rfl | simp, by (repeat (first | exact Below.refl _ _ | assumption | (refine Below.drewN ?_ _) | (refine Below.drew ?_) | (refine Below.alloc ?_ (by first | (simp; done) | (simp; omega) | omega) _) | (refine Below.setCell ?_ (by first | (simp; done) | (simp; omega) | omega) _) | (refine Below.trans ?_ (Below.mono (by assumption) (by first | (simp; done) | (simp; omega) | omega)))))⟩
end Go.Proofs.YtmkmhljiajgibaaGreatDoor
