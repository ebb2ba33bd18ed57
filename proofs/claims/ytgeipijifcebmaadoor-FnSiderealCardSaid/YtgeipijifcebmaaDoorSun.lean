/-
  Contracts of the sun's longitude and of the seasons.
-/
import Derived.Test.YtgeipijifcebmaaDoorSin
import Derived.Test.YtgeipijifcebmaaDoorDate
import Derived.Test.YtgeipijifcebmaaDoorMarc
import Derived.Deep.RegionHeld3
namespace Go.Proofs.YtgeipijifcebmaaDoor
set_option linter.unusedVariables false
set_option linter.unusedSimpArgs false
open Go.RowKit
attribute [local go_sem ↓] Go.wp_at_zero Go.wp_at_succ
attribute [local go_sem] nn_e2 nn_e3 nn_e4 nn_f2 nn_f3 nn_f4 nn_l2 nn_l3 nn_l4 nn_m3 nn_m4 nn_k4

theorem dvr_bd {a : Int} (h1 : -1000000000000 ≤ a) (h2 : a ≤ 1000000000000) : -1000000000000 ≤ dvr a 1000000 ∧ dvr a 1000000 ≤ 1000000000000 := by
  rw [dvr_eq (by omega) h1 h2 (by omega) (by omega)]; exact divR_bd (by omega) h1 h2
theorem divR_lo {a k : Int} (h : -(k * 1000000) ≤ a) : -k ≤ divR a 1000000 := by
  unfold divR qr
  split <;> simp <;> omega
set_option maxHeartbeats 2000000 in
theorem iSun (d m : Int) (w : World) (hS : SinesIn w) :
    Calls Tryd.prog 26 #[.agg #[.int .i64 d, .int .i64 m]] w fun e w' => e = .returned (.tuple #[.int .i64 (sunA d m), .int .i64 (okC d m)]) ∧ Below w.heap.size w w' := by
  have hS0 := hS.alloc
  cases c1 : okM d m
  · have e1 : sunA d m = 0 := by simp [sunA, c1]
    have e2 : okC d m = 1 := by simp [okC, c1]
    rw [e1, e2]; clear e1 e2
    go_enter Tryd.func26, Tryd.ntmps26
    go_wp2_with (go_at_call 65; (with_reducible refine (iValidMoment _ _ _).mono ?_); rintro e w' ⟨rfl, hb⟩; have hs := hb.size; (try simp at hs); (try have hz : w.heap.size < w'.heap.size := by omega); (try have hy : w.heap.size < w'.heap.size + 1 := by omega); (try have hyy : w.heap.size < w'.heap.size + 1 + 1 := by omega); (try have hz1 : w.heap.size + 1 < w'.heap.size := by omega); (try have hn : ¬ w'.heap.size = w.heap.size := by omega); (try have hn1 : ¬ w'.heap.size = w.heap.size + 1 := by omega); (try have hz2 : w.heap.size + 1 + 1 < w'.heap.size := by omega); (try have hq := Nat.lt_of_lt_of_le (by assumption) hs); (try have hq := Nat.lt_of_succ_le hs); obtain ⟨hc, hf⟩ := bcell hb; (try simp only [World.size_drew, World.cell?_drew, World.frozen?_drew, World.heap_drewN, World.cell?_drewN, World.frozen?_drewN] at hc hf))
    go_ret2
    exact ⟨rfl, by (repeat (first | exact Below.refl _ _ | assumption | (refine Below.drewN ?_ _) | (refine Below.drew ?_) | (refine Below.alloc ?_ (by first | (simp; done) | (simp; omega) | omega) _) | (refine Below.setCell ?_ (by first | (simp; done) | (simp; omega) | omega) _) | (refine Below.trans ?_ (Below.mono (by assumption) (by first | (simp; done) | (simp; omega) | omega)))))⟩
  have b1 := okM_t c1
  have b4 : 0 ≤ allOf d m ∧ allOf d m ≤ 8639999999999 := by unfold allOf; omega
  have e1 : sunA d m = (279967 + allOf d m * 985647 / 86400000000 + (dvr (1915 * sinI ((357035 + allOf d m * 985600 / 86400000000) % 360000)) 1000000 + dvr (20 * sinI (2 * ((357035 + allOf d m * 985600 / 86400000000) % 360000))) 1000000)) % 360000 := by
    have k1 := sinI_bd ((357035 + allOf d m * 985600 / 86400000000) % 360000)
    have k2 := sinI_bd (2 * ((357035 + allOf d m * 985600 / 86400000000) % 360000))
    rw [dvr_eq (by omega) (by omega) (by omega) (by omega) (by omega), dvr_eq (by omega) (by omega) (by omega) (by omega) (by omega), sinI_mod, sinI_two]
    simp [sunA, c1, sunF]
  have e2 : okC d m = 0 := by simp [okC, c1]
  rw [e1, e2]; clear e1 e2
  have k1 := sinI_bd ((357035 + allOf d m * 985600 / 86400000000) % 360000)
  have k2 := sinI_bd (2 * ((357035 + allOf d m * 985600 / 86400000000) % 360000))
  have k3 := dvr_bd (a := 1915 * sinI ((357035 + allOf d m * 985600 / 86400000000) % 360000)) (by omega) (by omega)
  have k4 := dvr_bd (a := 20 * sinI (2 * ((357035 + allOf d m * 985600 / 86400000000) % 360000))) (by omega) (by omega)
  go_enter Tryd.func26, Tryd.ntmps26
  go_wp2_with fail
  (with_reducible refine (iValidMoment _ _ _).mono ?_)
  rintro e W1 ⟨rfl, hb1⟩
  have hs1 := hb1.size
  (try simp at hs1)
  obtain ⟨hc1, hf1⟩ := bcell hb1
  (try have hz0_1 : w.heap.size < W1.heap.size := by omega)
  (try have hy0_1 : w.heap.size + 1 < W1.heap.size := by omega)
  have hS1 := (hS0 _).below hb1
  go_wp2_with fail
  (with_reducible refine (iMilliOf _ _ _ (by omega) (by omega) (by omega) (by omega)).mono ?_)
  rintro e W2 ⟨rfl, hb2⟩
  have hs2 := hb2.size
  (try simp at hs2)
  obtain ⟨hc2, hf2⟩ := bcell hb2
  (try have hz0_2 : w.heap.size < W2.heap.size := by omega)
  (try have hy0_2 : w.heap.size + 1 < W2.heap.size := by omega)
  (try have hz1_2 : W1.heap.size < W2.heap.size := by omega)
  (try have hy1_2 : W1.heap.size + 1 < W2.heap.size := by omega)
  have hS2 := hS1.below hb2
  go_wp2_with (first | (go_at_call 56; (with_reducible refine (iNormalAngle _ _ (by omega) (by omega)).mono ?_); rintro e w' ⟨rfl, rfl⟩) | (go_at_call 16; (with_reducible refine (iSineOf _ _ (by omega) (by omega) (by first | assumption | exact SinesIn.drewN (by assumption) _)).mono ?_); rintro e w' ⟨rfl, n, rfl⟩) | (go_at_call 67; (with_reducible refine (iDivRound _ _ _).mono ?_); rintro e w' ⟨rfl, n, rfl⟩))
  go_ret2
  exact ⟨rfl, by (repeat (first | exact Below.refl _ _ | assumption | (refine Below.drewN ?_ _) | (refine Below.drew ?_) | (refine Below.alloc ?_ (by first | (simp; done) | (simp; omega) | omega) _) | (refine Below.setCell ?_ (by first | (simp; done) | (simp; omega) | omega) _) | (refine Below.trans ?_ (Below.mono (by assumption) (by first | (simp; done) | (simp; omega) | omega)))))⟩
set_option maxHeartbeats 2000000 in
theorem sSun (d m : Int) (w : World) (h1 : 0 ≤ d) (h2 : d ≤ 99999) (h3 : 0 ≤ m) (h4 : m ≤ 86399999) :
    Calls Tryd.prog 64 #[.agg #[.int .i64 d, .int .i64 m]] w fun e w' => e = .returned (.int .i64 (sunF (allOf d m))) ∧ Below w.heap.size w w' := by
  have b4 : 0 ≤ allOf d m ∧ allOf d m ≤ 8639999999999 := by unfold allOf; omega
  have k1 := sinI_bd (357035 + allOf d m * 985600 / 86400000000)
  have k2 := sinI_bd (2 * (357035 + allOf d m * 985600 / 86400000000))
  have k3 := divR_bd (a := 1915 * sinI (357035 + allOf d m * 985600 / 86400000000)) (b := 1000000) (c := 1915000000) (by omega) (by omega) (by omega)
  have k4 := divR_bd (a := 20 * sinI (2 * (357035 + allOf d m * 985600 / 86400000000))) (b := 1000000) (c := 20000000) (by omega) (by omega) (by omega)
  have k5 : -1915 ≤ divR (1915 * sinI (357035 + allOf d m * 985600 / 86400000000)) 1000000 := by
    exact divR_lo (by omega)
  have k6 : -20 ≤ divR (20 * sinI (2 * (357035 + allOf d m * 985600 / 86400000000))) 1000000 := divR_lo (by omega)
  have e1 : sunF (allOf d m) = (279967 + allOf d m * 985647 / 86400000000 + divR (1915 * sinI (357035 + allOf d m * 985600 / 86400000000)) 1000000 + divR (20 * sinI (2 * (357035 + allOf d m * 985600 / 86400000000))) 1000000) % 360000 := by
    unfold sunF; rw [Int.add_assoc (279967 + allOf d m * 985647 / 86400000000)]
  rw [e1]; clear e1
  go_enter Tryd.func64, Tryd.ntmps64
  go_wp2_with (first | (go_at_call 83; (with_reducible refine (sAll _ _ _ (by omega) (by omega) (by omega) (by omega)).mono ?_); rintro e w' ⟨rfl, hb⟩; have hs := hb.size; (try simp at hs); (try have hz : w.heap.size < w'.heap.size := by omega); (try have hy : w.heap.size < w'.heap.size + 1 := by omega); (try have hyy : w.heap.size < w'.heap.size + 1 + 1 := by omega); (try have hz1 : w.heap.size + 1 < w'.heap.size := by omega); (try have hn : ¬ w'.heap.size = w.heap.size := by omega); (try have hn1 : ¬ w'.heap.size = w.heap.size + 1 := by omega); (try have hz2 : w.heap.size + 1 + 1 < w'.heap.size := by omega); (try have hq := Nat.lt_of_lt_of_le (by assumption) hs); (try have hq := Nat.lt_of_succ_le hs); obtain ⟨hc, hf⟩ := bcell hb; (try simp only [World.size_drew, World.cell?_drew, World.frozen?_drew, World.heap_drewN, World.cell?_drewN, World.frozen?_drewN] at hc hf)) | (go_at_call 15; (with_reducible refine (sSineOf _ _ (by omega) (by omega)).mono ?_); rintro e w' ⟨rfl, hb⟩; have hs := hb.size; (try simp at hs); (try have hz : w.heap.size < w'.heap.size := by omega); (try have hy : w.heap.size < w'.heap.size + 1 := by omega); (try have hyy : w.heap.size < w'.heap.size + 1 + 1 := by omega); (try have hz1 : w.heap.size + 1 < w'.heap.size := by omega); (try have hn : ¬ w'.heap.size = w.heap.size := by omega); (try have hn1 : ¬ w'.heap.size = w.heap.size + 1 := by omega); (try have hz2 : w.heap.size + 1 + 1 < w'.heap.size := by omega); (try have hq := Nat.lt_of_lt_of_le (by assumption) hs); (try have hq := Nat.lt_of_succ_le hs); obtain ⟨hc, hf⟩ := bcell hb; (try simp only [World.size_drew, World.cell?_drew, World.frozen?_drew, World.heap_drewN, World.cell?_drewN, World.frozen?_drewN] at hc hf)) | (go_at_call 89; (with_reducible refine (sDiv _ _ _ (by omega) (by omega) (by omega) (by omega) (by omega)).mono ?_); rintro e w' ⟨rfl, rfl⟩))
  go_ret
  exact ⟨rfl, by (repeat (first | exact Below.refl _ _ | assumption | (refine Below.drewN ?_ _) | (refine Below.drew ?_) | (refine Below.alloc ?_ (by first | (simp; done) | (simp; omega) | omega) _) | (refine Below.setCell ?_ (by first | (simp; done) | (simp; omega) | omega) _) | (refine Below.trans ?_ (Below.mono (by assumption) (by first | (simp; done) | (simp; omega) | omega)))))⟩
theorem sSunL (d m : Int) (w : World) :
    Calls Tryd.prog 24 #[.agg #[.int .i64 d, .int .i64 m]] w fun e w' => e = .returned (.tuple #[.int .i64 (sunA d m), .int .i64 (okC d m)]) ∧ Below w.heap.size w w' := by
  unfold sunA okC
  cases c1 : okM d m
  · go_enter Tryd.func24, Tryd.ntmps24
    go_wp2_with (go_at_call 63; (with_reducible refine (sOkM _ _ _).mono ?_); rintro e w' ⟨rfl, hb⟩; have hs := hb.size; (try simp at hs); (try have hz : w.heap.size < w'.heap.size := by omega); (try have hy : w.heap.size < w'.heap.size + 1 := by omega); (try have hyy : w.heap.size < w'.heap.size + 1 + 1 := by omega); (try have hz1 : w.heap.size + 1 < w'.heap.size := by omega); (try have hn : ¬ w'.heap.size = w.heap.size := by omega); (try have hn1 : ¬ w'.heap.size = w.heap.size + 1 := by omega); (try have hz2 : w.heap.size + 1 + 1 < w'.heap.size := by omega); (try have hq := Nat.lt_of_lt_of_le (by assumption) hs); (try have hq := Nat.lt_of_succ_le hs); obtain ⟨hc, hf⟩ := bcell hb; (try simp only [World.size_drew, World.cell?_drew, World.frozen?_drew, World.heap_drewN, World.cell?_drewN, World.frozen?_drewN] at hc hf))
    go_ret2
    exact ⟨rfl, by (repeat (first | exact Below.refl _ _ | assumption | (refine Below.drewN ?_ _) | (refine Below.drew ?_) | (refine Below.alloc ?_ (by first | (simp; done) | (simp; omega) | omega) _) | (refine Below.setCell ?_ (by first | (simp; done) | (simp; omega) | omega) _) | (refine Below.trans ?_ (Below.mono (by assumption) (by first | (simp; done) | (simp; omega) | omega)))))⟩
  · have b1 := okM_t c1
    go_enter Tryd.func24, Tryd.ntmps24
    go_wp2_with (first | (go_at_call 63; (with_reducible refine (sOkM _ _ _).mono ?_); rintro e w' ⟨rfl, hb⟩; have hs := hb.size; (try simp at hs); (try have hz : w.heap.size < w'.heap.size := by omega); (try have hy : w.heap.size < w'.heap.size + 1 := by omega); (try have hyy : w.heap.size < w'.heap.size + 1 + 1 := by omega); (try have hz1 : w.heap.size + 1 < w'.heap.size := by omega); (try have hn : ¬ w'.heap.size = w.heap.size := by omega); (try have hn1 : ¬ w'.heap.size = w.heap.size + 1 := by omega); (try have hz2 : w.heap.size + 1 + 1 < w'.heap.size := by omega); (try have hq := Nat.lt_of_lt_of_le (by assumption) hs); (try have hq := Nat.lt_of_succ_le hs); obtain ⟨hc, hf⟩ := bcell hb; (try simp only [World.size_drew, World.cell?_drew, World.frozen?_drew, World.heap_drewN, World.cell?_drewN, World.frozen?_drewN] at hc hf)) | (go_at_call 64; (with_reducible refine (sSun _ _ _ (by omega) (by omega) (by omega) (by omega)).mono ?_); rintro e w' ⟨rfl, hb⟩; have hs := hb.size; (try simp at hs); (try have hz : w.heap.size < w'.heap.size := by omega); (try have hy : w.heap.size < w'.heap.size + 1 := by omega); (try have hyy : w.heap.size < w'.heap.size + 1 + 1 := by omega); (try have hz1 : w.heap.size + 1 < w'.heap.size := by omega); (try have hn : ¬ w'.heap.size = w.heap.size := by omega); (try have hn1 : ¬ w'.heap.size = w.heap.size + 1 := by omega); (try have hz2 : w.heap.size + 1 + 1 < w'.heap.size := by omega); (try have hq := Nat.lt_of_lt_of_le (by assumption) hs); (try have hq := Nat.lt_of_succ_le hs); obtain ⟨hc, hf⟩ := bcell hb; (try simp only [World.size_drew, World.cell?_drew, World.frozen?_drew, World.heap_drewN, World.cell?_drewN, World.frozen?_drewN] at hc hf)))
    go_ret2
    exact ⟨rfl, by (repeat (first | exact Below.refl _ _ | assumption | (refine Below.drewN ?_ _) | (refine Below.drew ?_) | (refine Below.alloc ?_ (by first | (simp; done) | (simp; omega) | omega) _) | (refine Below.setCell ?_ (by first | (simp; done) | (simp; omega) | omega) _) | (refine Below.trans ?_ (Below.mono (by assumption) (by first | (simp; done) | (simp; omega) | omega)))))⟩
theorem iSeason (d m : Int) (w : World) (hS : SinesIn w) :
    Calls Tryd.prog 30 #[.agg #[.int .i64 d, .int .i64 m]] w fun e w' => e = .returned (.tuple #[.int .i64 (seaA d m), .int .i64 (okC d m)]) ∧ Below w.heap.size w w' := by
  have hS0 := hS.alloc
  cases c1 : okM d m
  · have e1 : sunA d m = 0 := by simp [sunA, c1]
    have e2 : okC d m = 1 := by simp [okC, c1]
    have e3 : seaA d m = 0 := by simp [seaA, c1]
    rw [e3]; clear e3
    go_enter Tryd.func30, Tryd.ntmps30
    go_wp2_with (go_at_call 26; (with_reducible refine (iSun _ _ _ (hS0 _)).mono ?_); rintro e w' ⟨rfl, hb⟩; have hs := hb.size; (try simp at hs); (try have hz : w.heap.size < w'.heap.size := by omega); (try have hy : w.heap.size < w'.heap.size + 1 := by omega); (try have hyy : w.heap.size < w'.heap.size + 1 + 1 := by omega); (try have hz1 : w.heap.size + 1 < w'.heap.size := by omega); (try have hn : ¬ w'.heap.size = w.heap.size := by omega); (try have hn1 : ¬ w'.heap.size = w.heap.size + 1 := by omega); (try have hz2 : w.heap.size + 1 + 1 < w'.heap.size := by omega); (try have hq := Nat.lt_of_lt_of_le (by assumption) hs); (try have hq := Nat.lt_of_succ_le hs); obtain ⟨hc, hf⟩ := bcell hb; (try simp only [World.size_drew, World.cell?_drew, World.frozen?_drew, World.heap_drewN, World.cell?_drewN, World.frozen?_drewN] at hc hf))
    go_ret2
    exact ⟨ret_ii rfl e2.symm, by (repeat (first | exact Below.refl _ _ | assumption | (refine Below.drewN ?_ _) | (refine Below.drew ?_) | (refine Below.alloc ?_ (by first | (simp; done) | (simp; omega) | omega) _) | (refine Below.setCell ?_ (by first | (simp; done) | (simp; omega) | omega) _) | (refine Below.trans ?_ (Below.mono (by assumption) (by first | (simp; done) | (simp; omega) | omega)))))⟩
  · have e1 : sunA d m = sunF (allOf d m) := by simp [sunA, c1]
    have e2 : okC d m = 0 := by simp [okC, c1]
    have e3 : seaA d m = sunF (allOf d m) / 90000 + 1 := by simp [seaA, c1]
    have b := sunF_bd (allOf d m)
    rw [e3]; clear e3
    go_enter Tryd.func30, Tryd.ntmps30
    go_wp2_with (go_at_call 26; (with_reducible refine (iSun _ _ _ (hS0 _)).mono ?_); rintro e w' ⟨rfl, hb⟩; have hs := hb.size; (try simp at hs); (try have hz : w.heap.size < w'.heap.size := by omega); (try have hy : w.heap.size < w'.heap.size + 1 := by omega); (try have hyy : w.heap.size < w'.heap.size + 1 + 1 := by omega); (try have hz1 : w.heap.size + 1 < w'.heap.size := by omega); (try have hn : ¬ w'.heap.size = w.heap.size := by omega); (try have hn1 : ¬ w'.heap.size = w.heap.size + 1 := by omega); (try have hz2 : w.heap.size + 1 + 1 < w'.heap.size := by omega); (try have hq := Nat.lt_of_lt_of_le (by assumption) hs); (try have hq := Nat.lt_of_succ_le hs); obtain ⟨hc, hf⟩ := bcell hb; (try simp only [World.size_drew, World.cell?_drew, World.frozen?_drew, World.heap_drewN, World.cell?_drewN, World.frozen?_drewN] at hc hf))
    go_ret2
    exact ⟨ret_ii rfl e2.symm, by (repeat (first | exact Below.refl _ _ | assumption | (refine Below.drewN ?_ _) | (refine Below.drew ?_) | (refine Below.alloc ?_ (by first | (simp; done) | (simp; omega) | omega) _) | (refine Below.setCell ?_ (by first | (simp; done) | (simp; omega) | omega) _) | (refine Below.trans ?_ (Below.mono (by assumption) (by first | (simp; done) | (simp; omega) | omega)))))⟩
theorem sSeason (d m : Int) (w : World) :
    Calls Tryd.prog 29 #[.agg #[.int .i64 d, .int .i64 m]] w fun e w' => e = .returned (.tuple #[.int .i64 (seaA d m), .int .i64 (okC d m)]) ∧ Below w.heap.size w w' := by
  unfold seaA okC
  cases c1 : okM d m
  · go_enter Tryd.func29, Tryd.ntmps29
    go_wp2_with (go_at_call 63; (with_reducible refine (sOkM _ _ _).mono ?_); rintro e w' ⟨rfl, hb⟩; have hs := hb.size; (try simp at hs); (try have hz : w.heap.size < w'.heap.size := by omega); (try have hy : w.heap.size < w'.heap.size + 1 := by omega); (try have hyy : w.heap.size < w'.heap.size + 1 + 1 := by omega); (try have hz1 : w.heap.size + 1 < w'.heap.size := by omega); (try have hn : ¬ w'.heap.size = w.heap.size := by omega); (try have hn1 : ¬ w'.heap.size = w.heap.size + 1 := by omega); (try have hz2 : w.heap.size + 1 + 1 < w'.heap.size := by omega); (try have hq := Nat.lt_of_lt_of_le (by assumption) hs); (try have hq := Nat.lt_of_succ_le hs); obtain ⟨hc, hf⟩ := bcell hb; (try simp only [World.size_drew, World.cell?_drew, World.frozen?_drew, World.heap_drewN, World.cell?_drewN, World.frozen?_drewN] at hc hf))
    go_ret2
    exact ⟨rfl, by (repeat (first | exact Below.refl _ _ | assumption | (refine Below.drewN ?_ _) | (refine Below.drew ?_) | (refine Below.alloc ?_ (by first | (simp; done) | (simp; omega) | omega) _) | (refine Below.setCell ?_ (by first | (simp; done) | (simp; omega) | omega) _) | (refine Below.trans ?_ (Below.mono (by assumption) (by first | (simp; done) | (simp; omega) | omega)))))⟩
  · have b1 := okM_t c1
    have b := sunF_bd (allOf d m)
    go_enter Tryd.func29, Tryd.ntmps29
    go_wp2_with (first | (go_at_call 63; (with_reducible refine (sOkM _ _ _).mono ?_); rintro e w' ⟨rfl, hb⟩; have hs := hb.size; (try simp at hs); (try have hz : w.heap.size < w'.heap.size := by omega); (try have hy : w.heap.size < w'.heap.size + 1 := by omega); (try have hyy : w.heap.size < w'.heap.size + 1 + 1 := by omega); (try have hz1 : w.heap.size + 1 < w'.heap.size := by omega); (try have hn : ¬ w'.heap.size = w.heap.size := by omega); (try have hn1 : ¬ w'.heap.size = w.heap.size + 1 := by omega); (try have hz2 : w.heap.size + 1 + 1 < w'.heap.size := by omega); (try have hq := Nat.lt_of_lt_of_le (by assumption) hs); (try have hq := Nat.lt_of_succ_le hs); obtain ⟨hc, hf⟩ := bcell hb; (try simp only [World.size_drew, World.cell?_drew, World.frozen?_drew, World.heap_drewN, World.cell?_drewN, World.frozen?_drewN] at hc hf)) | (go_at_call 64; (with_reducible refine (sSun _ _ _ (by omega) (by omega) (by omega) (by omega)).mono ?_); rintro e w' ⟨rfl, hb⟩; have hs := hb.size; (try simp at hs); (try have hz : w.heap.size < w'.heap.size := by omega); (try have hy : w.heap.size < w'.heap.size + 1 := by omega); (try have hyy : w.heap.size < w'.heap.size + 1 + 1 := by omega); (try have hz1 : w.heap.size + 1 < w'.heap.size := by omega); (try have hn : ¬ w'.heap.size = w.heap.size := by omega); (try have hn1 : ¬ w'.heap.size = w.heap.size + 1 := by omega); (try have hz2 : w.heap.size + 1 + 1 < w'.heap.size := by omega); (try have hq := Nat.lt_of_lt_of_le (by assumption) hs); (try have hq := Nat.lt_of_succ_le hs); obtain ⟨hc, hf⟩ := bcell hb; (try simp only [World.size_drew, World.cell?_drew, World.frozen?_drew, World.heap_drewN, World.cell?_drewN, World.frozen?_drewN] at hc hf)))
    go_ret2
    exact ⟨rfl, by (repeat (first | exact Below.refl _ _ | assumption | (refine Below.drewN ?_ _) | (refine Below.drew ?_) | (refine Below.alloc ?_ (by first | (simp; done) | (simp; omega) | omega) _) | (refine Below.setCell ?_ (by first | (simp; done) | (simp; omega) | omega) _) | (refine Below.trans ?_ (Below.mono (by assumption) (by first | (simp; done) | (simp; omega) | omega)))))⟩
theorem walk_FnExactSunLongitude (a0_0 a0_1 : Int) (w : World) (w0_0 : (Lit.int .i64 a0_0).wf = true) (w0_1 : (Lit.int .i64 a0_1).wf = true) (hS : SinesIn w) :
    Calls Tryd.prog 7 #[.agg #[.int .i64 a0_0, .int .i64 a0_1]] w fun e w' => e = .returned (.bool true) ∧ Below w.heap.size w w' := by
  clear w0_0 w0_1
  go_enter Tryd.func7, Tryd.ntmps7
  go_wp2_with fail
  (with_reducible refine (lToMoment _ _ _).mono ?_)
  rintro e W1 ⟨rfl, hb1⟩
  have hs1 := hb1.size
  (try simp at hs1)
  obtain ⟨hc1, hf1⟩ := bcell hb1
  (try have hz0_1 : w.heap.size < W1.heap.size := by omega)
  (try have hy0_1 : w.heap.size + 1 < W1.heap.size := by omega)
  have hS1 := (hS.alloc _).below hb1
  go_wp2_with fail
  (with_reducible refine (sSunL _ _ _).mono ?_)
  rintro e W2 ⟨rfl, hb2⟩
  have hs2 := hb2.size
  (try simp at hs2)
  obtain ⟨hc2, hf2⟩ := bcell hb2
  (try have hz0_2 : w.heap.size < W2.heap.size := by omega)
  (try have hy0_2 : w.heap.size + 1 < W2.heap.size := by omega)
  (try have hz1_2 : W1.heap.size < W2.heap.size := by omega)
  (try have hy1_2 : W1.heap.size + 1 < W2.heap.size := by omega)
  have hS2 : SinesIn W2 := by first | exact hS1.below hb2 | exact (hS1.alloc _).below hb2 | exact ((hS1.alloc _).alloc _).below hb2
  go_wp2_with fail
  (with_reducible refine (lToMoment _ _ _).mono ?_)
  rintro e W3 ⟨rfl, hb3⟩
  have hs3 := hb3.size
  (try simp at hs3)
  obtain ⟨hc3, hf3⟩ := bcell hb3
  (try have hz0_3 : w.heap.size < W3.heap.size := by omega)
  (try have hy0_3 : w.heap.size + 1 < W3.heap.size := by omega)
  (try have hz1_3 : W1.heap.size < W3.heap.size := by omega)
  (try have hy1_3 : W1.heap.size + 1 < W3.heap.size := by omega)
  (try have hz2_3 : W2.heap.size < W3.heap.size := by omega)
  (try have hy2_3 : W2.heap.size + 1 < W3.heap.size := by omega)
  have hS3 : SinesIn W3 := by first | exact hS2.below hb3 | exact (hS2.alloc _).below hb3 | exact ((hS2.alloc _).alloc _).below hb3
  go_wp2_with fail
  (with_reducible refine (iSun _ _ _ (by first | exact hS3 | exact ((hS3.alloc _)) | exact ((hS3.alloc _).alloc _))).mono ?_)
  rintro e W4 ⟨rfl, hb4⟩
  have hs4 := hb4.size
  (try simp at hs4)
  obtain ⟨hc4, hf4⟩ := bcell hb4
  (try have hz0_4 : w.heap.size < W4.heap.size := by omega)
  (try have hy0_4 : w.heap.size + 1 < W4.heap.size := by omega)
  (try have hz1_4 : W1.heap.size < W4.heap.size := by omega)
  (try have hy1_4 : W1.heap.size + 1 < W4.heap.size := by omega)
  (try have hz2_4 : W2.heap.size < W4.heap.size := by omega)
  (try have hy2_4 : W2.heap.size + 1 < W4.heap.size := by omega)
  (try have hz3_4 : W3.heap.size < W4.heap.size := by omega)
  (try have hy3_4 : W3.heap.size + 1 < W4.heap.size := by omega)
  go_wp2
  go_ret
  exact ⟨rfl, by (repeat (first | exact Below.refl _ _ | assumption | (refine Below.drewN ?_ _) | (refine Below.drew ?_) | (refine Below.alloc ?_ (by first | (simp; done) | (simp; omega) | omega) _) | (refine Below.setCell ?_ (by first | (simp; done) | (simp; omega) | omega) _) | (refine Below.trans ?_ (Below.mono (by assumption) (by first | (simp; done) | (simp; omega) | omega)))))⟩
theorem walk_FnExactSeasonOf (a0_0 a0_1 : Int) (w : World) (w0_0 : (Lit.int .i64 a0_0).wf = true) (w0_1 : (Lit.int .i64 a0_1).wf = true) (hS : SinesIn w) :
    Calls Tryd.prog 9 #[.agg #[.int .i64 a0_0, .int .i64 a0_1]] w fun e w' => e = .returned (.bool true) ∧ Below w.heap.size w w' := by
  clear w0_0 w0_1
  go_enter Tryd.func9, Tryd.ntmps9
  go_wp2_with fail
  (with_reducible refine (lToMoment _ _ _).mono ?_)
  rintro e W1 ⟨rfl, hb1⟩
  have hs1 := hb1.size
  (try simp at hs1)
  obtain ⟨hc1, hf1⟩ := bcell hb1
  (try have hz0_1 : w.heap.size < W1.heap.size := by omega)
  (try have hy0_1 : w.heap.size + 1 < W1.heap.size := by omega)
  have hS1 := (hS.alloc _).below hb1
  go_wp2_with fail
  (with_reducible refine (sSeason _ _ _).mono ?_)
  rintro e W2 ⟨rfl, hb2⟩
  have hs2 := hb2.size
  (try simp at hs2)
  obtain ⟨hc2, hf2⟩ := bcell hb2
  (try have hz0_2 : w.heap.size < W2.heap.size := by omega)
  (try have hy0_2 : w.heap.size + 1 < W2.heap.size := by omega)
  (try have hz1_2 : W1.heap.size < W2.heap.size := by omega)
  (try have hy1_2 : W1.heap.size + 1 < W2.heap.size := by omega)
  have hS2 : SinesIn W2 := by first | exact hS1.below hb2 | exact (hS1.alloc _).below hb2 | exact ((hS1.alloc _).alloc _).below hb2
  go_wp2_with fail
  (with_reducible refine (lToMoment _ _ _).mono ?_)
  rintro e W3 ⟨rfl, hb3⟩
  have hs3 := hb3.size
  (try simp at hs3)
  obtain ⟨hc3, hf3⟩ := bcell hb3
  (try have hz0_3 : w.heap.size < W3.heap.size := by omega)
  (try have hy0_3 : w.heap.size + 1 < W3.heap.size := by omega)
  (try have hz1_3 : W1.heap.size < W3.heap.size := by omega)
  (try have hy1_3 : W1.heap.size + 1 < W3.heap.size := by omega)
  (try have hz2_3 : W2.heap.size < W3.heap.size := by omega)
  (try have hy2_3 : W2.heap.size + 1 < W3.heap.size := by omega)
  have hS3 : SinesIn W3 := by first | exact hS2.below hb3 | exact (hS2.alloc _).below hb3 | exact ((hS2.alloc _).alloc _).below hb3
  go_wp2_with fail
  (with_reducible refine (iSeason _ _ _ (by first | exact hS3 | exact ((hS3.alloc _)) | exact ((hS3.alloc _).alloc _))).mono ?_)
  rintro e W4 ⟨rfl, hb4⟩
  have hs4 := hb4.size
  (try simp at hs4)
  obtain ⟨hc4, hf4⟩ := bcell hb4
  (try have hz0_4 : w.heap.size < W4.heap.size := by omega)
  (try have hy0_4 : w.heap.size + 1 < W4.heap.size := by omega)
  (try have hz1_4 : W1.heap.size < W4.heap.size := by omega)
  (try have hy1_4 : W1.heap.size + 1 < W4.heap.size := by omega)
  (try have hz2_4 : W2.heap.size < W4.heap.size := by omega)
  (try have hy2_4 : W2.heap.size + 1 < W4.heap.size := by omega)
  (try have hz3_4 : W3.heap.size < W4.heap.size := by omega)
  (try have hy3_4 : W3.heap.size + 1 < W4.heap.size := by omega)
  go_wp2
  go_ret
  exact ⟨rfl, by (repeat (first | exact Below.refl _ _ | assumption | (refine Below.drewN ?_ _) | (refine Below.drew ?_) | (refine Below.alloc ?_ (by first | (simp; done) | (simp; omega) | omega) _) | (refine Below.setCell ?_ (by first | (simp; done) | (simp; omega) | omega) _) | (refine Below.trans ?_ (Below.mono (by assumption) (by first | (simp; done) | (simp; omega) | omega)))))⟩
end Go.Proofs.YtgeipijifcebmaaDoor
