/-
  Contracts of the angle between two vectors.
-/
import Derived.Test.YtmkmhljiajgibaaGreatDoorAng
import Derived.Test.YtmkmhljiajgibaaGreatDoorVec2
namespace Go.Proofs.YtmkmhljiajgibaaGreatDoor
set_option linter.unusedVariables false
set_option linter.unusedSimpArgs false
open Go.RowKit
attribute [local go_sem ↓] Go.wp_at_zero Go.wp_at_succ
attribute [local go_sem] nn_e2 nn_e3 nn_e4 nn_f2 nn_f3 nn_f4 nn_l2 nn_l3 nn_l4 nn_m3 nn_m4 nn_k4

theorem divM_bd {a k : Int} (h1 : -(k * 1000000) ≤ a) (h2 : a ≤ k * 1000000) : -k ≤ divR a 1000000 ∧ divR a 1000000 ≤ k := by
  unfold divR qr
  split <;> simp <;> omega
theorem SinesIn.below' {w w' : World} (hb : Below w.heap.size w w') (h : SinesIn w) : SinesIn w' := h.below hb
noncomputable def spL (a b c x y z : Int) : Int := lenF (crX a b c x y z) (crY a b c x y z) (crZ a b c x y z)
noncomputable def seA (a b c x y z : Int) : Int := if okV a b c && okV x y z then (if zeroV a b c || zeroV x y z then 0 else atA (spL a b c x y z) (dotV a b c x y z)) else 0
noncomputable def seC (a b c x y z : Int) : Int := if okV a b c && okV x y z then (if zeroV a b c || zeroV x y z then 6 else atC (spL a b c x y z) (dotV a b c x y z)) else 1
theorem se_no {a b c x y z : Int} (h : (okV a b c && okV x y z) = false) : seA a b c x y z = 0 ∧ seC a b c x y z = 1 := by simp [seA, seC, h]
theorem se_zero {a b c x y z : Int} (h1 : okV a b c = true) (h2 : okV x y z = true) (h : (a = 0 ∧ b = 0 ∧ c = 0) ∨ (x = 0 ∧ y = 0 ∧ z = 0)) : seA a b c x y z = 0 ∧ seC a b c x y z = 6 := by
  have e : (zeroV a b c || zeroV x y z) = true := by
    rcases h with h | h
    · rw [show zeroV a b c = true from decide_eq_true h]; rfl
    · rw [show zeroV x y z = true from decide_eq_true h]; simp
  simp [seA, seC, h1, h2, e]
theorem se_yes {a b c x y z : Int} (h1 : okV a b c = true) (h2 : okV x y z = true) (g : ¬ (a = 0 ∧ b = 0 ∧ c = 0)) (h : ¬ (x = 0 ∧ y = 0 ∧ z = 0)) : seA a b c x y z = atA (spL a b c x y z) (dotV a b c x y z) ∧ seC a b c x y z = atC (spL a b c x y z) (dotV a b c x y z) := by
  have e : (zeroV a b c || zeroV x y z) = false := by rw [show zeroV a b c = false from decide_eq_false g, show zeroV x y z = false from decide_eq_false h]; rfl
  simp [seA, seC, h1, h2, e]
theorem three {x y z : Int} (h : ¬ (x = 0 ∧ y = 0 ∧ z = 0)) : x ≠ 0 ∨ (x = 0 ∧ y ≠ 0) ∨ (x = 0 ∧ y = 0 ∧ z ≠ 0) := by omega
theorem cr_bds {a b c x y z : Int} (a1 : -2000000 ≤ a) (a2 : a ≤ 2000000) (b1 : -2000000 ≤ b) (b2 : b ≤ 2000000) (c1 : -2000000 ≤ c) (c2 : c ≤ 2000000) (x1 : -2000000 ≤ x) (x2 : x ≤ 2000000) (y1 : -2000000 ≤ y) (y2 : y ≤ 2000000) (z1 : -2000000 ≤ z) (z2 : z ≤ 2000000) :
    (-8000000 ≤ crX a b c x y z ∧ crX a b c x y z ≤ 8000000) ∧ (-8000000 ≤ crY a b c x y z ∧ crY a b c x y z ≤ 8000000) ∧ (-8000000 ≤ crZ a b c x y z ∧ crZ a b c x y z ≤ 8000000) ∧ (-12000000 ≤ dotV a b c x y z ∧ dotV a b c x y z ≤ 12000000) := by
  have m1 := mul_okV b1 b2 z1 z2
  have m2 := mul_okV c1 c2 y1 y2
  have m3 := mul_okV c1 c2 x1 x2
  have m4 := mul_okV a1 a2 z1 z2
  have m5 := mul_okV a1 a2 y1 y2
  have m6 := mul_okV b1 b2 x1 x2
  have m7 := mul_okV a1 a2 x1 x2
  have m8 := mul_okV b1 b2 y1 y2
  have m9 := mul_okV c1 c2 z1 z2
  unfold crX crY crZ dotV
  exact ⟨divM_bd (by omega) (by omega), divM_bd (by omega) (by omega), divM_bd (by omega) (by omega), divM_bd (by omega) (by omega)⟩
set_option maxHeartbeats 16000000 in
theorem iSepar (a b c x y z : Int) (w : World) (hS : SinesIn w) :
    Calls Tryz.prog 12 #[.agg #[.int .i64 a, .int .i64 b, .int .i64 c], .agg #[.int .i64 x, .int .i64 y, .int .i64 z]] w fun e w' => e = .returned (.tuple #[.int .i64 (seA a b c x y z), .int .i64 (seC a b c x y z)]) ∧ Below w.heap.size w w' := by
  cases h1 : okV a b c
  · obtain ⟨r1, r2⟩ := se_no (a := a) (b := b) (c := c) (x := x) (y := y) (z := z) (by rw [h1]; rfl)
    rw [r1, r2]; clear r1 r2
    go_enter Tryz.func12, Tryz.ntmps12
    go_wp2_with (go_at_call 21; (with_reducible refine (iValidVector _ _ _ _).mono ?_); rintro e w' ⟨rfl, hb⟩; have hs := hb.size; (try simp at hs); (try have hz : w.heap.size < w'.heap.size := by omega); (try have hy : w.heap.size < w'.heap.size + 1 := by omega); (try have hyy : w.heap.size < w'.heap.size + 1 + 1 := by omega); (try have hz1 : w.heap.size + 1 < w'.heap.size := by omega); (try have hn : ¬ w'.heap.size = w.heap.size := by omega); (try have hn1 : ¬ w'.heap.size = w.heap.size + 1 := by omega); (try have hz2 : w.heap.size + 1 + 1 < w'.heap.size := by omega); (try have hq := Nat.lt_of_lt_of_le (by assumption) hs); (try have hq := Nat.lt_of_succ_le hs); obtain ⟨hc, hf⟩ := bcell hb; (try simp only [World.size_drew, World.cell?_drew, World.frozen?_drew, World.heap_drewN, World.cell?_drewN, World.frozen?_drewN] at hc hf))
    go_ret2
    exact ⟨rfl, by (repeat (first | exact Below.refl _ _ | assumption | (refine Below.drewN ?_ _) | (refine Below.drew ?_) | (refine Below.alloc ?_ (by first | (simp; done) | (simp; omega) | omega) _) | (refine Below.setCell ?_ (by first | (simp; done) | (simp; omega) | omega) _) | (refine Below.trans ?_ (Below.mono (by assumption) (by first | (simp; done) | (simp; omega) | omega)))))⟩
  cases h2 : okV x y z
  · obtain ⟨r1, r2⟩ := se_no (a := a) (b := b) (c := c) (x := x) (y := y) (z := z) (by rw [h1, h2]; rfl)
    rw [r1, r2]; clear r1 r2
    go_enter Tryz.func12, Tryz.ntmps12
    go_wp2_with (go_at_call 21; (with_reducible refine (iValidVector _ _ _ _).mono ?_); rintro e w' ⟨rfl, hb⟩; have hs := hb.size; (try simp at hs); (try have hz : w.heap.size < w'.heap.size := by omega); (try have hy : w.heap.size < w'.heap.size + 1 := by omega); (try have hyy : w.heap.size < w'.heap.size + 1 + 1 := by omega); (try have hz1 : w.heap.size + 1 < w'.heap.size := by omega); (try have hn : ¬ w'.heap.size = w.heap.size := by omega); (try have hn1 : ¬ w'.heap.size = w.heap.size + 1 := by omega); (try have hz2 : w.heap.size + 1 + 1 < w'.heap.size := by omega); (try have hq := Nat.lt_of_lt_of_le (by assumption) hs); (try have hq := Nat.lt_of_succ_le hs); obtain ⟨hc, hf⟩ := bcell hb; (try simp only [World.size_drew, World.cell?_drew, World.frozen?_drew, World.heap_drewN, World.cell?_drewN, World.frozen?_drewN] at hc hf))
    go_ret2
    exact ⟨rfl, by (repeat (first | exact Below.refl _ _ | assumption | (refine Below.drewN ?_ _) | (refine Below.drew ?_) | (refine Below.alloc ?_ (by first | (simp; done) | (simp; omega) | omega) _) | (refine Below.setCell ?_ (by first | (simp; done) | (simp; omega) | omega) _) | (refine Below.trans ?_ (Below.mono (by assumption) (by first | (simp; done) | (simp; omega) | omega)))))⟩
  obtain ⟨⟨a1, a2⟩, ⟨b1, b2⟩, c1, c2⟩ := okV_t h1
  obtain ⟨⟨x1, x2⟩, ⟨y1, y2⟩, z1, z2⟩ := okV_t h2
  by_cases g1 : a = 0 ∧ b = 0 ∧ c = 0
  · obtain ⟨r1, r2⟩ := se_zero h1 h2 (.inl g1)
    rw [r1, r2]; clear r1 r2
    obtain ⟨rfl, rfl, rfl⟩ := g1
    go_enter Tryz.func12, Tryz.ntmps12
    go_wp2_with (go_at_call 21; (with_reducible refine (iValidVector _ _ _ _).mono ?_); rintro e w' ⟨rfl, hb⟩; have hs := hb.size; (try simp at hs); (try have hz : w.heap.size < w'.heap.size := by omega); (try have hy : w.heap.size < w'.heap.size + 1 := by omega); (try have hyy : w.heap.size < w'.heap.size + 1 + 1 := by omega); (try have hz1 : w.heap.size + 1 < w'.heap.size := by omega); (try have hn : ¬ w'.heap.size = w.heap.size := by omega); (try have hn1 : ¬ w'.heap.size = w.heap.size + 1 := by omega); (try have hz2 : w.heap.size + 1 + 1 < w'.heap.size := by omega); (try have hq := Nat.lt_of_lt_of_le (by assumption) hs); (try have hq := Nat.lt_of_succ_le hs); obtain ⟨hc, hf⟩ := bcell hb; (try simp only [World.size_drew, World.cell?_drew, World.frozen?_drew, World.heap_drewN, World.cell?_drewN, World.frozen?_drewN] at hc hf))
    go_ret2
    exact ⟨rfl, by (repeat (first | exact Below.refl _ _ | assumption | (refine Below.drewN ?_ _) | (refine Below.drew ?_) | (refine Below.alloc ?_ (by first | (simp; done) | (simp; omega) | omega) _) | (refine Below.setCell ?_ (by first | (simp; done) | (simp; omega) | omega) _) | (refine Below.trans ?_ (Below.mono (by assumption) (by first | (simp; done) | (simp; omega) | omega)))))⟩
  by_cases g2 : x = 0 ∧ y = 0 ∧ z = 0
  · obtain ⟨r1, r2⟩ := se_zero h1 h2 (.inr g2)
    rw [r1, r2]; clear r1 r2
    obtain ⟨rfl, rfl, rfl⟩ := g2
    rcases three g1 with hA | ⟨rfl, hA⟩ | ⟨rfl, rfl, hA⟩
    all_goals
      clear g1
      go_enter Tryz.func12, Tryz.ntmps12
      go_wp2_with (go_at_call 21; (with_reducible refine (iValidVector _ _ _ _).mono ?_); rintro e w' ⟨rfl, hb⟩; have hs := hb.size; (try simp at hs); (try have hz : w.heap.size < w'.heap.size := by omega); (try have hy : w.heap.size < w'.heap.size + 1 := by omega); (try have hyy : w.heap.size < w'.heap.size + 1 + 1 := by omega); (try have hz1 : w.heap.size + 1 < w'.heap.size := by omega); (try have hn : ¬ w'.heap.size = w.heap.size := by omega); (try have hn1 : ¬ w'.heap.size = w.heap.size + 1 := by omega); (try have hz2 : w.heap.size + 1 + 1 < w'.heap.size := by omega); (try have hq := Nat.lt_of_lt_of_le (by assumption) hs); (try have hq := Nat.lt_of_succ_le hs); obtain ⟨hc, hf⟩ := bcell hb; (try simp only [World.size_drew, World.cell?_drew, World.frozen?_drew, World.heap_drewN, World.cell?_drewN, World.frozen?_drewN] at hc hf))
      go_ret2
      exact ⟨rfl, by (repeat (first | exact Below.refl _ _ | assumption | (refine Below.drewN ?_ _) | (refine Below.drew ?_) | (refine Below.alloc ?_ (by first | (simp; done) | (simp; omega) | omega) _) | (refine Below.setCell ?_ (by first | (simp; done) | (simp; omega) | omega) _) | (refine Below.trans ?_ (Below.mono (by assumption) (by first | (simp; done) | (simp; omega) | omega)))))⟩
  obtain ⟨r1, r2⟩ := se_yes h1 h2 g1 g2
  rw [r1, r2]; clear r1 r2
  obtain ⟨⟨p1, p2⟩, ⟨q1, q2⟩, ⟨r1, r2⟩, s1, s2⟩ := cr_bds a1 a2 b1 b2 c1 c2 x1 x2 y1 y2 z1 z2
  have hS0 := fun o o' => (hS.alloc o).alloc o'
  rcases three g1 with hA | ⟨rfl, hA⟩ | ⟨rfl, rfl, hA⟩ <;> rcases three g2 with hB | ⟨rfl, hB⟩ | ⟨rfl, rfl, hB⟩
  · clear g1 g2
    unfold spL
    go_enter Tryz.func12, Tryz.ntmps12
    go_wp2_with fail
    (with_reducible refine (iValidVector _ _ _ _).mono ?_)
    rintro e W1 ⟨rfl, hb1⟩
    have hs1 := hb1.size
    (try simp at hs1)
    obtain ⟨hc1, hf1⟩ := bcell hb1
    (try have hz0_1 : w.heap.size < W1.heap.size := by omega)
    (try have hy0_1 : w.heap.size + 1 < W1.heap.size := by omega)
    have hS1 := (hS0 _ _).below hb1
    go_wp2_with fail
    (with_reducible refine (iValidVector _ _ _ _).mono ?_)
    rintro e W2 ⟨rfl, hb2⟩
    have hs2 := hb2.size
    (try simp at hs2)
    obtain ⟨hc2, hf2⟩ := bcell hb2
    (try have hz0_2 : w.heap.size < W2.heap.size := by omega)
    (try have hy0_2 : w.heap.size + 1 < W2.heap.size := by omega)
    (try have hz1_2 : W1.heap.size < W2.heap.size := by omega)
    (try have hy1_2 : W1.heap.size + 1 < W2.heap.size := by omega)
    have hS2 := hS1.below hb2
    clear hS hS0 hS1
    go_wp2_with fail
    go_region_held3 (fun w' => w'.cell? ⟨w.heap.size, 0, none⟩ = some (.int .i64 a) ∧ w'.cell? ⟨w.heap.size, 1, none⟩ = some (.int .i64 b) ∧ w'.cell? ⟨w.heap.size, 2, none⟩ = some (.int .i64 c) ∧ w'.cell? ⟨w.heap.size + 1, 0, none⟩ = some (.int .i64 x) ∧ w'.cell? ⟨w.heap.size + 1, 1, none⟩ = some (.int .i64 y) ∧ w'.cell? ⟨w.heap.size + 1, 2, none⟩ = some (.int .i64 z) ∧ SinesIn w') ((refine ⟨?_, ?_, ?_, ?_, ?_, ?_, ?_⟩ <;> first | (simp [*, World.cell?_alloc_some, World.cell?_setCell_far, World.cell?_alloc_past, nn_e2, nn_e3, nn_e4, nn_f2, nn_f3, nn_f4, nn_l2, nn_l3, nn_l4, nn_m3, nn_m4, nn_k4]; done) | (first | assumption | (simp [*]; done) | (apply SinesIn.drewN; first | assumption | (simp [*]; done)) | (refine SinesIn.below' (by assumption) ?_; first | assumption | (simp [*]; done) | (apply SinesIn.drewN; first | assumption | (simp [*]; done)))))) (first | (go_at_call 28; (with_reducible refine (iCrossV _ _ _ _ _ _ _ (by omega) (by omega) (by omega) (by omega) (by omega) (by omega) (by omega) (by omega) (by omega) (by omega) (by omega) (by omega)).mono ?_); rintro e w' ⟨rfl, hb⟩; have hs := hb.size; (try simp at hs); (try have hz : w.heap.size < w'.heap.size := by omega); (try have hy : w.heap.size < w'.heap.size + 1 := by omega); (try have hyy : w.heap.size < w'.heap.size + 1 + 1 := by omega); (try have hz1 : w.heap.size + 1 < w'.heap.size := by omega); (try have hn : ¬ w'.heap.size = w.heap.size := by omega); (try have hn1 : ¬ w'.heap.size = w.heap.size + 1 := by omega); (try have hz2 : w.heap.size + 1 + 1 < w'.heap.size := by omega); (try have hq := Nat.lt_of_lt_of_le (by assumption) hs); (try have hq := Nat.lt_of_succ_le hs); obtain ⟨hc, hf⟩ := bcell hb; (try simp only [World.size_drew, World.cell?_drew, World.frozen?_drew, World.heap_drewN, World.cell?_drewN, World.frozen?_drewN] at hc hf)) | (go_at_call 29; (with_reducible refine (iDotV _ _ _ _ _ _ _ (by omega) (by omega) (by omega) (by omega) (by omega) (by omega) (by omega) (by omega) (by omega) (by omega) (by omega) (by omega)).mono ?_); rintro e w' ⟨rfl, hb⟩; have hs := hb.size; (try simp at hs); (try have hz : w.heap.size < w'.heap.size := by omega); (try have hy : w.heap.size < w'.heap.size + 1 := by omega); (try have hyy : w.heap.size < w'.heap.size + 1 + 1 := by omega); (try have hz1 : w.heap.size + 1 < w'.heap.size := by omega); (try have hn : ¬ w'.heap.size = w.heap.size := by omega); (try have hn1 : ¬ w'.heap.size = w.heap.size + 1 := by omega); (try have hz2 : w.heap.size + 1 + 1 < w'.heap.size := by omega); (try have hq := Nat.lt_of_lt_of_le (by assumption) hs); (try have hq := Nat.lt_of_succ_le hs); obtain ⟨hc, hf⟩ := bcell hb; (try simp only [World.size_drew, World.cell?_drew, World.frozen?_drew, World.heap_drewN, World.cell?_drewN, World.frozen?_drewN] at hc hf)) | (go_at_call 24; (with_reducible refine (iLength _ _ _ _ (by omega) (by omega) (by omega) (by omega) (by omega) (by omega)).mono ?_); rintro e w' ⟨rfl, hb⟩; have hs := hb.size; (try simp at hs); (try have hz : w.heap.size < w'.heap.size := by omega); (try have hy : w.heap.size < w'.heap.size + 1 := by omega); (try have hyy : w.heap.size < w'.heap.size + 1 + 1 := by omega); (try have hz1 : w.heap.size + 1 < w'.heap.size := by omega); (try have hn : ¬ w'.heap.size = w.heap.size := by omega); (try have hn1 : ¬ w'.heap.size = w.heap.size + 1 := by omega); (try have hz2 : w.heap.size + 1 + 1 < w'.heap.size := by omega); (try have hq := Nat.lt_of_lt_of_le (by assumption) hs); (try have hq := Nat.lt_of_succ_le hs); obtain ⟨hc, hf⟩ := bcell hb; (try simp only [World.size_drew, World.cell?_drew, World.frozen?_drew, World.heap_drewN, World.cell?_drewN, World.frozen?_drewN] at hc hf)) | (go_at_call 22; (with_reducible refine (iArcTangent _ _ _ (by first | assumption | (simp [*]; done) | (apply SinesIn.drewN; first | assumption | (simp [*]; done)) | (refine SinesIn.below' (by assumption) ?_; first | assumption | (simp [*]; done) | (apply SinesIn.drewN; first | assumption | (simp [*]; done))))).mono ?_); rintro e w' ⟨rfl, n, rfl⟩))
    go_wp2
    go_ret2
    exact ⟨rfl, by (repeat (first | exact Below.refl _ _ | assumption | (refine Below.drewN ?_ _) | (refine Below.drew ?_) | (refine Below.alloc ?_ (by first | (simp; done) | (simp; omega) | omega) _) | (refine Below.setCell ?_ (by first | (simp; done) | (simp; omega) | omega) _) | (refine Below.trans ?_ (Below.mono (by assumption) (by first | (simp; done) | (simp; omega) | omega)))))⟩
  · clear g1 g2
    unfold spL
    go_enter Tryz.func12, Tryz.ntmps12
    go_wp2_with fail
    (with_reducible refine (iValidVector _ _ _ _).mono ?_)
    rintro e W1 ⟨rfl, hb1⟩
    have hs1 := hb1.size
    (try simp at hs1)
    obtain ⟨hc1, hf1⟩ := bcell hb1
    (try have hz0_1 : w.heap.size < W1.heap.size := by omega)
    (try have hy0_1 : w.heap.size + 1 < W1.heap.size := by omega)
    have hS1 := (hS0 _ _).below hb1
    go_wp2_with fail
    (with_reducible refine (iValidVector _ _ _ _).mono ?_)
    rintro e W2 ⟨rfl, hb2⟩
    have hs2 := hb2.size
    (try simp at hs2)
    obtain ⟨hc2, hf2⟩ := bcell hb2
    (try have hz0_2 : w.heap.size < W2.heap.size := by omega)
    (try have hy0_2 : w.heap.size + 1 < W2.heap.size := by omega)
    (try have hz1_2 : W1.heap.size < W2.heap.size := by omega)
    (try have hy1_2 : W1.heap.size + 1 < W2.heap.size := by omega)
    have hS2 := hS1.below hb2
    clear hS hS0 hS1
    go_wp2_with fail
    go_region_held3 (fun w' => w'.cell? ⟨w.heap.size, 0, none⟩ = some (.int .i64 a) ∧ w'.cell? ⟨w.heap.size, 1, none⟩ = some (.int .i64 b) ∧ w'.cell? ⟨w.heap.size, 2, none⟩ = some (.int .i64 c) ∧ w'.cell? ⟨w.heap.size + 1, 0, none⟩ = some (.int .i64 0) ∧ w'.cell? ⟨w.heap.size + 1, 1, none⟩ = some (.int .i64 y) ∧ w'.cell? ⟨w.heap.size + 1, 2, none⟩ = some (.int .i64 z) ∧ SinesIn w') ((refine ⟨?_, ?_, ?_, ?_, ?_, ?_, ?_⟩ <;> first | (simp [*, World.cell?_alloc_some, World.cell?_setCell_far, World.cell?_alloc_past, nn_e2, nn_e3, nn_e4, nn_f2, nn_f3, nn_f4, nn_l2, nn_l3, nn_l4, nn_m3, nn_m4, nn_k4]; done) | (first | assumption | (simp [*]; done) | (apply SinesIn.drewN; first | assumption | (simp [*]; done)) | (refine SinesIn.below' (by assumption) ?_; first | assumption | (simp [*]; done) | (apply SinesIn.drewN; first | assumption | (simp [*]; done)))))) (first | (go_at_call 28; (with_reducible refine (iCrossV _ _ _ _ _ _ _ (by omega) (by omega) (by omega) (by omega) (by omega) (by omega) (by omega) (by omega) (by omega) (by omega) (by omega) (by omega)).mono ?_); rintro e w' ⟨rfl, hb⟩; have hs := hb.size; (try simp at hs); (try have hz : w.heap.size < w'.heap.size := by omega); (try have hy : w.heap.size < w'.heap.size + 1 := by omega); (try have hyy : w.heap.size < w'.heap.size + 1 + 1 := by omega); (try have hz1 : w.heap.size + 1 < w'.heap.size := by omega); (try have hn : ¬ w'.heap.size = w.heap.size := by omega); (try have hn1 : ¬ w'.heap.size = w.heap.size + 1 := by omega); (try have hz2 : w.heap.size + 1 + 1 < w'.heap.size := by omega); (try have hq := Nat.lt_of_lt_of_le (by assumption) hs); (try have hq := Nat.lt_of_succ_le hs); obtain ⟨hc, hf⟩ := bcell hb; (try simp only [World.size_drew, World.cell?_drew, World.frozen?_drew, World.heap_drewN, World.cell?_drewN, World.frozen?_drewN] at hc hf)) | (go_at_call 29; (with_reducible refine (iDotV _ _ _ _ _ _ _ (by omega) (by omega) (by omega) (by omega) (by omega) (by omega) (by omega) (by omega) (by omega) (by omega) (by omega) (by omega)).mono ?_); rintro e w' ⟨rfl, hb⟩; have hs := hb.size; (try simp at hs); (try have hz : w.heap.size < w'.heap.size := by omega); (try have hy : w.heap.size < w'.heap.size + 1 := by omega); (try have hyy : w.heap.size < w'.heap.size + 1 + 1 := by omega); (try have hz1 : w.heap.size + 1 < w'.heap.size := by omega); (try have hn : ¬ w'.heap.size = w.heap.size := by omega); (try have hn1 : ¬ w'.heap.size = w.heap.size + 1 := by omega); (try have hz2 : w.heap.size + 1 + 1 < w'.heap.size := by omega); (try have hq := Nat.lt_of_lt_of_le (by assumption) hs); (try have hq := Nat.lt_of_succ_le hs); obtain ⟨hc, hf⟩ := bcell hb; (try simp only [World.size_drew, World.cell?_drew, World.frozen?_drew, World.heap_drewN, World.cell?_drewN, World.frozen?_drewN] at hc hf)) | (go_at_call 24; (with_reducible refine (iLength _ _ _ _ (by omega) (by omega) (by omega) (by omega) (by omega) (by omega)).mono ?_); rintro e w' ⟨rfl, hb⟩; have hs := hb.size; (try simp at hs); (try have hz : w.heap.size < w'.heap.size := by omega); (try have hy : w.heap.size < w'.heap.size + 1 := by omega); (try have hyy : w.heap.size < w'.heap.size + 1 + 1 := by omega); (try have hz1 : w.heap.size + 1 < w'.heap.size := by omega); (try have hn : ¬ w'.heap.size = w.heap.size := by omega); (try have hn1 : ¬ w'.heap.size = w.heap.size + 1 := by omega); (try have hz2 : w.heap.size + 1 + 1 < w'.heap.size := by omega); (try have hq := Nat.lt_of_lt_of_le (by assumption) hs); (try have hq := Nat.lt_of_succ_le hs); obtain ⟨hc, hf⟩ := bcell hb; (try simp only [World.size_drew, World.cell?_drew, World.frozen?_drew, World.heap_drewN, World.cell?_drewN, World.frozen?_drewN] at hc hf)) | (go_at_call 22; (with_reducible refine (iArcTangent _ _ _ (by first | assumption | (simp [*]; done) | (apply SinesIn.drewN; first | assumption | (simp [*]; done)) | (refine SinesIn.below' (by assumption) ?_; first | assumption | (simp [*]; done) | (apply SinesIn.drewN; first | assumption | (simp [*]; done))))).mono ?_); rintro e w' ⟨rfl, n, rfl⟩))
    go_wp2
    go_ret2
    exact ⟨rfl, by (repeat (first | exact Below.refl _ _ | assumption | (refine Below.drewN ?_ _) | (refine Below.drew ?_) | (refine Below.alloc ?_ (by first | (simp; done) | (simp; omega) | omega) _) | (refine Below.setCell ?_ (by first | (simp; done) | (simp; omega) | omega) _) | (refine Below.trans ?_ (Below.mono (by assumption) (by first | (simp; done) | (simp; omega) | omega)))))⟩
  · clear g1 g2
    unfold spL
    go_enter Tryz.func12, Tryz.ntmps12
    go_wp2_with fail
    (with_reducible refine (iValidVector _ _ _ _).mono ?_)
    rintro e W1 ⟨rfl, hb1⟩
    have hs1 := hb1.size
    (try simp at hs1)
    obtain ⟨hc1, hf1⟩ := bcell hb1
    (try have hz0_1 : w.heap.size < W1.heap.size := by omega)
    (try have hy0_1 : w.heap.size + 1 < W1.heap.size := by omega)
    have hS1 := (hS0 _ _).below hb1
    go_wp2_with fail
    (with_reducible refine (iValidVector _ _ _ _).mono ?_)
    rintro e W2 ⟨rfl, hb2⟩
    have hs2 := hb2.size
    (try simp at hs2)
    obtain ⟨hc2, hf2⟩ := bcell hb2
    (try have hz0_2 : w.heap.size < W2.heap.size := by omega)
    (try have hy0_2 : w.heap.size + 1 < W2.heap.size := by omega)
    (try have hz1_2 : W1.heap.size < W2.heap.size := by omega)
    (try have hy1_2 : W1.heap.size + 1 < W2.heap.size := by omega)
    have hS2 := hS1.below hb2
    clear hS hS0 hS1
    go_wp2_with fail
    go_region_held3 (fun w' => w'.cell? ⟨w.heap.size, 0, none⟩ = some (.int .i64 a) ∧ w'.cell? ⟨w.heap.size, 1, none⟩ = some (.int .i64 b) ∧ w'.cell? ⟨w.heap.size, 2, none⟩ = some (.int .i64 c) ∧ w'.cell? ⟨w.heap.size + 1, 0, none⟩ = some (.int .i64 0) ∧ w'.cell? ⟨w.heap.size + 1, 1, none⟩ = some (.int .i64 0) ∧ w'.cell? ⟨w.heap.size + 1, 2, none⟩ = some (.int .i64 z) ∧ SinesIn w') ((refine ⟨?_, ?_, ?_, ?_, ?_, ?_, ?_⟩ <;> first | (simp [*, World.cell?_alloc_some, World.cell?_setCell_far, World.cell?_alloc_past, nn_e2, nn_e3, nn_e4, nn_f2, nn_f3, nn_f4, nn_l2, nn_l3, nn_l4, nn_m3, nn_m4, nn_k4]; done) | (first | assumption | (simp [*]; done) | (apply SinesIn.drewN; first | assumption | (simp [*]; done)) | (refine SinesIn.below' (by assumption) ?_; first | assumption | (simp [*]; done) | (apply SinesIn.drewN; first | assumption | (simp [*]; done)))))) (first | (go_at_call 28; (with_reducible refine (iCrossV _ _ _ _ _ _ _ (by omega) (by omega) (by omega) (by omega) (by omega) (by omega) (by omega) (by omega) (by omega) (by omega) (by omega) (by omega)).mono ?_); rintro e w' ⟨rfl, hb⟩; have hs := hb.size; (try simp at hs); (try have hz : w.heap.size < w'.heap.size := by omega); (try have hy : w.heap.size < w'.heap.size + 1 := by omega); (try have hyy : w.heap.size < w'.heap.size + 1 + 1 := by omega); (try have hz1 : w.heap.size + 1 < w'.heap.size := by omega); (try have hn : ¬ w'.heap.size = w.heap.size := by omega); (try have hn1 : ¬ w'.heap.size = w.heap.size + 1 := by omega); (try have hz2 : w.heap.size + 1 + 1 < w'.heap.size := by omega); (try have hq := Nat.lt_of_lt_of_le (by assumption) hs); (try have hq := Nat.lt_of_succ_le hs); obtain ⟨hc, hf⟩ := bcell hb; (try simp only [World.size_drew, World.cell?_drew, World.frozen?_drew, World.heap_drewN, World.cell?_drewN, World.frozen?_drewN] at hc hf)) | (go_at_call 29; (with_reducible refine (iDotV _ _ _ _ _ _ _ (by omega) (by omega) (by omega) (by omega) (by omega) (by omega) (by omega) (by omega) (by omega) (by omega) (by omega) (by omega)).mono ?_); rintro e w' ⟨rfl, hb⟩; have hs := hb.size; (try simp at hs); (try have hz : w.heap.size < w'.heap.size := by omega); (try have hy : w.heap.size < w'.heap.size + 1 := by omega); (try have hyy : w.heap.size < w'.heap.size + 1 + 1 := by omega); (try have hz1 : w.heap.size + 1 < w'.heap.size := by omega); (try have hn : ¬ w'.heap.size = w.heap.size := by omega); (try have hn1 : ¬ w'.heap.size = w.heap.size + 1 := by omega); (try have hz2 : w.heap.size + 1 + 1 < w'.heap.size := by omega); (try have hq := Nat.lt_of_lt_of_le (by assumption) hs); (try have hq := Nat.lt_of_succ_le hs); obtain ⟨hc, hf⟩ := bcell hb; (try simp only [World.size_drew, World.cell?_drew, World.frozen?_drew, World.heap_drewN, World.cell?_drewN, World.frozen?_drewN] at hc hf)) | (go_at_call 24; (with_reducible refine (iLength _ _ _ _ (by omega) (by omega) (by omega) (by omega) (by omega) (by omega)).mono ?_); rintro e w' ⟨rfl, hb⟩; have hs := hb.size; (try simp at hs); (try have hz : w.heap.size < w'.heap.size := by omega); (try have hy : w.heap.size < w'.heap.size + 1 := by omega); (try have hyy : w.heap.size < w'.heap.size + 1 + 1 := by omega); (try have hz1 : w.heap.size + 1 < w'.heap.size := by omega); (try have hn : ¬ w'.heap.size = w.heap.size := by omega); (try have hn1 : ¬ w'.heap.size = w.heap.size + 1 := by omega); (try have hz2 : w.heap.size + 1 + 1 < w'.heap.size := by omega); (try have hq := Nat.lt_of_lt_of_le (by assumption) hs); (try have hq := Nat.lt_of_succ_le hs); obtain ⟨hc, hf⟩ := bcell hb; (try simp only [World.size_drew, World.cell?_drew, World.frozen?_drew, World.heap_drewN, World.cell?_drewN, World.frozen?_drewN] at hc hf)) | (go_at_call 22; (with_reducible refine (iArcTangent _ _ _ (by first | assumption | (simp [*]; done) | (apply SinesIn.drewN; first | assumption | (simp [*]; done)) | (refine SinesIn.below' (by assumption) ?_; first | assumption | (simp [*]; done) | (apply SinesIn.drewN; first | assumption | (simp [*]; done))))).mono ?_); rintro e w' ⟨rfl, n, rfl⟩))
    go_wp2
    go_ret2
    exact ⟨rfl, by (repeat (first | exact Below.refl _ _ | assumption | (refine Below.drewN ?_ _) | (refine Below.drew ?_) | (refine Below.alloc ?_ (by first | (simp; done) | (simp; omega) | omega) _) | (refine Below.setCell ?_ (by first | (simp; done) | (simp; omega) | omega) _) | (refine Below.trans ?_ (Below.mono (by assumption) (by first | (simp; done) | (simp; omega) | omega)))))⟩
  · clear g1 g2
    unfold spL
    go_enter Tryz.func12, Tryz.ntmps12
    go_wp2_with fail
    (with_reducible refine (iValidVector _ _ _ _).mono ?_)
    rintro e W1 ⟨rfl, hb1⟩
    have hs1 := hb1.size
    (try simp at hs1)
    obtain ⟨hc1, hf1⟩ := bcell hb1
    (try have hz0_1 : w.heap.size < W1.heap.size := by omega)
    (try have hy0_1 : w.heap.size + 1 < W1.heap.size := by omega)
    have hS1 := (hS0 _ _).below hb1
    go_wp2_with fail
    (with_reducible refine (iValidVector _ _ _ _).mono ?_)
    rintro e W2 ⟨rfl, hb2⟩
    have hs2 := hb2.size
    (try simp at hs2)
    obtain ⟨hc2, hf2⟩ := bcell hb2
    (try have hz0_2 : w.heap.size < W2.heap.size := by omega)
    (try have hy0_2 : w.heap.size + 1 < W2.heap.size := by omega)
    (try have hz1_2 : W1.heap.size < W2.heap.size := by omega)
    (try have hy1_2 : W1.heap.size + 1 < W2.heap.size := by omega)
    have hS2 := hS1.below hb2
    clear hS hS0 hS1
    go_wp2_with fail
    go_region_held3 (fun w' => w'.cell? ⟨w.heap.size, 0, none⟩ = some (.int .i64 0) ∧ w'.cell? ⟨w.heap.size, 1, none⟩ = some (.int .i64 b) ∧ w'.cell? ⟨w.heap.size, 2, none⟩ = some (.int .i64 c) ∧ w'.cell? ⟨w.heap.size + 1, 0, none⟩ = some (.int .i64 x) ∧ w'.cell? ⟨w.heap.size + 1, 1, none⟩ = some (.int .i64 y) ∧ w'.cell? ⟨w.heap.size + 1, 2, none⟩ = some (.int .i64 z) ∧ SinesIn w') ((refine ⟨?_, ?_, ?_, ?_, ?_, ?_, ?_⟩ <;> first | (simp [*, World.cell?_alloc_some, World.cell?_setCell_far, World.cell?_alloc_past, nn_e2, nn_e3, nn_e4, nn_f2, nn_f3, nn_f4, nn_l2, nn_l3, nn_l4, nn_m3, nn_m4, nn_k4]; done) | (first | assumption | (simp [*]; done) | (apply SinesIn.drewN; first | assumption | (simp [*]; done)) | (refine SinesIn.below' (by assumption) ?_; first | assumption | (simp [*]; done) | (apply SinesIn.drewN; first | assumption | (simp [*]; done)))))) (first | (go_at_call 28; (with_reducible refine (iCrossV _ _ _ _ _ _ _ (by omega) (by omega) (by omega) (by omega) (by omega) (by omega) (by omega) (by omega) (by omega) (by omega) (by omega) (by omega)).mono ?_); rintro e w' ⟨rfl, hb⟩; have hs := hb.size; (try simp at hs); (try have hz : w.heap.size < w'.heap.size := by omega); (try have hy : w.heap.size < w'.heap.size + 1 := by omega); (try have hyy : w.heap.size < w'.heap.size + 1 + 1 := by omega); (try have hz1 : w.heap.size + 1 < w'.heap.size := by omega); (try have hn : ¬ w'.heap.size = w.heap.size := by omega); (try have hn1 : ¬ w'.heap.size = w.heap.size + 1 := by omega); (try have hz2 : w.heap.size + 1 + 1 < w'.heap.size := by omega); (try have hq := Nat.lt_of_lt_of_le (by assumption) hs); (try have hq := Nat.lt_of_succ_le hs); obtain ⟨hc, hf⟩ := bcell hb; (try simp only [World.size_drew, World.cell?_drew, World.frozen?_drew, World.heap_drewN, World.cell?_drewN, World.frozen?_drewN] at hc hf)) | (go_at_call 29; (with_reducible refine (iDotV _ _ _ _ _ _ _ (by omega) (by omega) (by omega) (by omega) (by omega) (by omega) (by omega) (by omega) (by omega) (by omega) (by omega) (by omega)).mono ?_); rintro e w' ⟨rfl, hb⟩; have hs := hb.size; (try simp at hs); (try have hz : w.heap.size < w'.heap.size := by omega); (try have hy : w.heap.size < w'.heap.size + 1 := by omega); (try have hyy : w.heap.size < w'.heap.size + 1 + 1 := by omega); (try have hz1 : w.heap.size + 1 < w'.heap.size := by omega); (try have hn : ¬ w'.heap.size = w.heap.size := by omega); (try have hn1 : ¬ w'.heap.size = w.heap.size + 1 := by omega); (try have hz2 : w.heap.size + 1 + 1 < w'.heap.size := by omega); (try have hq := Nat.lt_of_lt_of_le (by assumption) hs); (try have hq := Nat.lt_of_succ_le hs); obtain ⟨hc, hf⟩ := bcell hb; (try simp only [World.size_drew, World.cell?_drew, World.frozen?_drew, World.heap_drewN, World.cell?_drewN, World.frozen?_drewN] at hc hf)) | (go_at_call 24; (with_reducible refine (iLength _ _ _ _ (by omega) (by omega) (by omega) (by omega) (by omega) (by omega)).mono ?_); rintro e w' ⟨rfl, hb⟩; have hs := hb.size; (try simp at hs); (try have hz : w.heap.size < w'.heap.size := by omega); (try have hy : w.heap.size < w'.heap.size + 1 := by omega); (try have hyy : w.heap.size < w'.heap.size + 1 + 1 := by omega); (try have hz1 : w.heap.size + 1 < w'.heap.size := by omega); (try have hn : ¬ w'.heap.size = w.heap.size := by omega); (try have hn1 : ¬ w'.heap.size = w.heap.size + 1 := by omega); (try have hz2 : w.heap.size + 1 + 1 < w'.heap.size := by omega); (try have hq := Nat.lt_of_lt_of_le (by assumption) hs); (try have hq := Nat.lt_of_succ_le hs); obtain ⟨hc, hf⟩ := bcell hb; (try simp only [World.size_drew, World.cell?_drew, World.frozen?_drew, World.heap_drewN, World.cell?_drewN, World.frozen?_drewN] at hc hf)) | (go_at_call 22; (with_reducible refine (iArcTangent _ _ _ (by first | assumption | (simp [*]; done) | (apply SinesIn.drewN; first | assumption | (simp [*]; done)) | (refine SinesIn.below' (by assumption) ?_; first | assumption | (simp [*]; done) | (apply SinesIn.drewN; first | assumption | (simp [*]; done))))).mono ?_); rintro e w' ⟨rfl, n, rfl⟩))
    go_wp2
    go_ret2
    exact ⟨rfl, by (repeat (first | exact Below.refl _ _ | assumption | (refine Below.drewN ?_ _) | (refine Below.drew ?_) | (refine Below.alloc ?_ (by first | (simp; done) | (simp; omega) | omega) _) | (refine Below.setCell ?_ (by first | (simp; done) | (simp; omega) | omega) _) | (refine Below.trans ?_ (Below.mono (by assumption) (by first | (simp; done) | (simp; omega) | omega)))))⟩
  · clear g1 g2
    unfold spL
    go_enter Tryz.func12, Tryz.ntmps12
    go_wp2_with fail
    (with_reducible refine (iValidVector _ _ _ _).mono ?_)
    rintro e W1 ⟨rfl, hb1⟩
    have hs1 := hb1.size
    (try simp at hs1)
    obtain ⟨hc1, hf1⟩ := bcell hb1
    (try have hz0_1 : w.heap.size < W1.heap.size := by omega)
    (try have hy0_1 : w.heap.size + 1 < W1.heap.size := by omega)
    have hS1 := (hS0 _ _).below hb1
    go_wp2_with fail
    (with_reducible refine (iValidVector _ _ _ _).mono ?_)
    rintro e W2 ⟨rfl, hb2⟩
    have hs2 := hb2.size
    (try simp at hs2)
    obtain ⟨hc2, hf2⟩ := bcell hb2
    (try have hz0_2 : w.heap.size < W2.heap.size := by omega)
    (try have hy0_2 : w.heap.size + 1 < W2.heap.size := by omega)
    (try have hz1_2 : W1.heap.size < W2.heap.size := by omega)
    (try have hy1_2 : W1.heap.size + 1 < W2.heap.size := by omega)
    have hS2 := hS1.below hb2
    clear hS hS0 hS1
    go_wp2_with fail
    go_region_held3 (fun w' => w'.cell? ⟨w.heap.size, 0, none⟩ = some (.int .i64 0) ∧ w'.cell? ⟨w.heap.size, 1, none⟩ = some (.int .i64 b) ∧ w'.cell? ⟨w.heap.size, 2, none⟩ = some (.int .i64 c) ∧ w'.cell? ⟨w.heap.size + 1, 0, none⟩ = some (.int .i64 0) ∧ w'.cell? ⟨w.heap.size + 1, 1, none⟩ = some (.int .i64 y) ∧ w'.cell? ⟨w.heap.size + 1, 2, none⟩ = some (.int .i64 z) ∧ SinesIn w') ((refine ⟨?_, ?_, ?_, ?_, ?_, ?_, ?_⟩ <;> first | (simp [*, World.cell?_alloc_some, World.cell?_setCell_far, World.cell?_alloc_past, nn_e2, nn_e3, nn_e4, nn_f2, nn_f3, nn_f4, nn_l2, nn_l3, nn_l4, nn_m3, nn_m4, nn_k4]; done) | (first | assumption | (simp [*]; done) | (apply SinesIn.drewN; first | assumption | (simp [*]; done)) | (refine SinesIn.below' (by assumption) ?_; first | assumption | (simp [*]; done) | (apply SinesIn.drewN; first | assumption | (simp [*]; done)))))) (first | (go_at_call 28; (with_reducible refine (iCrossV _ _ _ _ _ _ _ (by omega) (by omega) (by omega) (by omega) (by omega) (by omega) (by omega) (by omega) (by omega) (by omega) (by omega) (by omega)).mono ?_); rintro e w' ⟨rfl, hb⟩; have hs := hb.size; (try simp at hs); (try have hz : w.heap.size < w'.heap.size := by omega); (try have hy : w.heap.size < w'.heap.size + 1 := by omega); (try have hyy : w.heap.size < w'.heap.size + 1 + 1 := by omega); (try have hz1 : w.heap.size + 1 < w'.heap.size := by omega); (try have hn : ¬ w'.heap.size = w.heap.size := by omega); (try have hn1 : ¬ w'.heap.size = w.heap.size + 1 := by omega); (try have hz2 : w.heap.size + 1 + 1 < w'.heap.size := by omega); (try have hq := Nat.lt_of_lt_of_le (by assumption) hs); (try have hq := Nat.lt_of_succ_le hs); obtain ⟨hc, hf⟩ := bcell hb; (try simp only [World.size_drew, World.cell?_drew, World.frozen?_drew, World.heap_drewN, World.cell?_drewN, World.frozen?_drewN] at hc hf)) | (go_at_call 29; (with_reducible refine (iDotV _ _ _ _ _ _ _ (by omega) (by omega) (by omega) (by omega) (by omega) (by omega) (by omega) (by omega) (by omega) (by omega) (by omega) (by omega)).mono ?_); rintro e w' ⟨rfl, hb⟩; have hs := hb.size; (try simp at hs); (try have hz : w.heap.size < w'.heap.size := by omega); (try have hy : w.heap.size < w'.heap.size + 1 := by omega); (try have hyy : w.heap.size < w'.heap.size + 1 + 1 := by omega); (try have hz1 : w.heap.size + 1 < w'.heap.size := by omega); (try have hn : ¬ w'.heap.size = w.heap.size := by omega); (try have hn1 : ¬ w'.heap.size = w.heap.size + 1 := by omega); (try have hz2 : w.heap.size + 1 + 1 < w'.heap.size := by omega); (try have hq := Nat.lt_of_lt_of_le (by assumption) hs); (try have hq := Nat.lt_of_succ_le hs); obtain ⟨hc, hf⟩ := bcell hb; (try simp only [World.size_drew, World.cell?_drew, World.frozen?_drew, World.heap_drewN, World.cell?_drewN, World.frozen?_drewN] at hc hf)) | (go_at_call 24; (with_reducible refine (iLength _ _ _ _ (by omega) (by omega) (by omega) (by omega) (by omega) (by omega)).mono ?_); rintro e w' ⟨rfl, hb⟩; have hs := hb.size; (try simp at hs); (try have hz : w.heap.size < w'.heap.size := by omega); (try have hy : w.heap.size < w'.heap.size + 1 := by omega); (try have hyy : w.heap.size < w'.heap.size + 1 + 1 := by omega); (try have hz1 : w.heap.size + 1 < w'.heap.size := by omega); (try have hn : ¬ w'.heap.size = w.heap.size := by omega); (try have hn1 : ¬ w'.heap.size = w.heap.size + 1 := by omega); (try have hz2 : w.heap.size + 1 + 1 < w'.heap.size := by omega); (try have hq := Nat.lt_of_lt_of_le (by assumption) hs); (try have hq := Nat.lt_of_succ_le hs); obtain ⟨hc, hf⟩ := bcell hb; (try simp only [World.size_drew, World.cell?_drew, World.frozen?_drew, World.heap_drewN, World.cell?_drewN, World.frozen?_drewN] at hc hf)) | (go_at_call 22; (with_reducible refine (iArcTangent _ _ _ (by first | assumption | (simp [*]; done) | (apply SinesIn.drewN; first | assumption | (simp [*]; done)) | (refine SinesIn.below' (by assumption) ?_; first | assumption | (simp [*]; done) | (apply SinesIn.drewN; first | assumption | (simp [*]; done))))).mono ?_); rintro e w' ⟨rfl, n, rfl⟩))
    go_wp2
    go_ret2
    exact ⟨rfl, by (repeat (first | exact Below.refl _ _ | assumption | (refine Below.drewN ?_ _) | (refine Below.drew ?_) | (refine Below.alloc ?_ (by first | (simp; done) | (simp; omega) | omega) _) | (refine Below.setCell ?_ (by first | (simp; done) | (simp; omega) | omega) _) | (refine Below.trans ?_ (Below.mono (by assumption) (by first | (simp; done) | (simp; omega) | omega)))))⟩
  · clear g1 g2
    unfold spL
    go_enter Tryz.func12, Tryz.ntmps12
    go_wp2_with fail
    (with_reducible refine (iValidVector _ _ _ _).mono ?_)
    rintro e W1 ⟨rfl, hb1⟩
    have hs1 := hb1.size
    (try simp at hs1)
    obtain ⟨hc1, hf1⟩ := bcell hb1
    (try have hz0_1 : w.heap.size < W1.heap.size := by omega)
    (try have hy0_1 : w.heap.size + 1 < W1.heap.size := by omega)
    have hS1 := (hS0 _ _).below hb1
    go_wp2_with fail
    (with_reducible refine (iValidVector _ _ _ _).mono ?_)
    rintro e W2 ⟨rfl, hb2⟩
    have hs2 := hb2.size
    (try simp at hs2)
    obtain ⟨hc2, hf2⟩ := bcell hb2
    (try have hz0_2 : w.heap.size < W2.heap.size := by omega)
    (try have hy0_2 : w.heap.size + 1 < W2.heap.size := by omega)
    (try have hz1_2 : W1.heap.size < W2.heap.size := by omega)
    (try have hy1_2 : W1.heap.size + 1 < W2.heap.size := by omega)
    have hS2 := hS1.below hb2
    clear hS hS0 hS1
    go_wp2_with fail
    go_region_held3 (fun w' => w'.cell? ⟨w.heap.size, 0, none⟩ = some (.int .i64 0) ∧ w'.cell? ⟨w.heap.size, 1, none⟩ = some (.int .i64 b) ∧ w'.cell? ⟨w.heap.size, 2, none⟩ = some (.int .i64 c) ∧ w'.cell? ⟨w.heap.size + 1, 0, none⟩ = some (.int .i64 0) ∧ w'.cell? ⟨w.heap.size + 1, 1, none⟩ = some (.int .i64 0) ∧ w'.cell? ⟨w.heap.size + 1, 2, none⟩ = some (.int .i64 z) ∧ SinesIn w') ((refine ⟨?_, ?_, ?_, ?_, ?_, ?_, ?_⟩ <;> first | (simp [*, World.cell?_alloc_some, World.cell?_setCell_far, World.cell?_alloc_past, nn_e2, nn_e3, nn_e4, nn_f2, nn_f3, nn_f4, nn_l2, nn_l3, nn_l4, nn_m3, nn_m4, nn_k4]; done) | (first | assumption | (simp [*]; done) | (apply SinesIn.drewN; first | assumption | (simp [*]; done)) | (refine SinesIn.below' (by assumption) ?_; first | assumption | (simp [*]; done) | (apply SinesIn.drewN; first | assumption | (simp [*]; done)))))) (first | (go_at_call 28; (with_reducible refine (iCrossV _ _ _ _ _ _ _ (by omega) (by omega) (by omega) (by omega) (by omega) (by omega) (by omega) (by omega) (by omega) (by omega) (by omega) (by omega)).mono ?_); rintro e w' ⟨rfl, hb⟩; have hs := hb.size; (try simp at hs); (try have hz : w.heap.size < w'.heap.size := by omega); (try have hy : w.heap.size < w'.heap.size + 1 := by omega); (try have hyy : w.heap.size < w'.heap.size + 1 + 1 := by omega); (try have hz1 : w.heap.size + 1 < w'.heap.size := by omega); (try have hn : ¬ w'.heap.size = w.heap.size := by omega); (try have hn1 : ¬ w'.heap.size = w.heap.size + 1 := by omega); (try have hz2 : w.heap.size + 1 + 1 < w'.heap.size := by omega); (try have hq := Nat.lt_of_lt_of_le (by assumption) hs); (try have hq := Nat.lt_of_succ_le hs); obtain ⟨hc, hf⟩ := bcell hb; (try simp only [World.size_drew, World.cell?_drew, World.frozen?_drew, World.heap_drewN, World.cell?_drewN, World.frozen?_drewN] at hc hf)) | (go_at_call 29; (with_reducible refine (iDotV _ _ _ _ _ _ _ (by omega) (by omega) (by omega) (by omega) (by omega) (by omega) (by omega) (by omega) (by omega) (by omega) (by omega) (by omega)).mono ?_); rintro e w' ⟨rfl, hb⟩; have hs := hb.size; (try simp at hs); (try have hz : w.heap.size < w'.heap.size := by omega); (try have hy : w.heap.size < w'.heap.size + 1 := by omega); (try have hyy : w.heap.size < w'.heap.size + 1 + 1 := by omega); (try have hz1 : w.heap.size + 1 < w'.heap.size := by omega); (try have hn : ¬ w'.heap.size = w.heap.size := by omega); (try have hn1 : ¬ w'.heap.size = w.heap.size + 1 := by omega); (try have hz2 : w.heap.size + 1 + 1 < w'.heap.size := by omega); (try have hq := Nat.lt_of_lt_of_le (by assumption) hs); (try have hq := Nat.lt_of_succ_le hs); obtain ⟨hc, hf⟩ := bcell hb; (try simp only [World.size_drew, World.cell?_drew, World.frozen?_drew, World.heap_drewN, World.cell?_drewN, World.frozen?_drewN] at hc hf)) | (go_at_call 24; (with_reducible refine (iLength _ _ _ _ (by omega) (by omega) (by omega) (by omega) (by omega) (by omega)).mono ?_); rintro e w' ⟨rfl, hb⟩; have hs := hb.size; (try simp at hs); (try have hz : w.heap.size < w'.heap.size := by omega); (try have hy : w.heap.size < w'.heap.size + 1 := by omega); (try have hyy : w.heap.size < w'.heap.size + 1 + 1 := by omega); (try have hz1 : w.heap.size + 1 < w'.heap.size := by omega); (try have hn : ¬ w'.heap.size = w.heap.size := by omega); (try have hn1 : ¬ w'.heap.size = w.heap.size + 1 := by omega); (try have hz2 : w.heap.size + 1 + 1 < w'.heap.size := by omega); (try have hq := Nat.lt_of_lt_of_le (by assumption) hs); (try have hq := Nat.lt_of_succ_le hs); obtain ⟨hc, hf⟩ := bcell hb; (try simp only [World.size_drew, World.cell?_drew, World.frozen?_drew, World.heap_drewN, World.cell?_drewN, World.frozen?_drewN] at hc hf)) | (go_at_call 22; (with_reducible refine (iArcTangent _ _ _ (by first | assumption | (simp [*]; done) | (apply SinesIn.drewN; first | assumption | (simp [*]; done)) | (refine SinesIn.below' (by assumption) ?_; first | assumption | (simp [*]; done) | (apply SinesIn.drewN; first | assumption | (simp [*]; done))))).mono ?_); rintro e w' ⟨rfl, n, rfl⟩))
    go_wp2
    go_ret2
    exact ⟨rfl, by (repeat (first | exact Below.refl _ _ | assumption | (refine Below.drewN ?_ _) | (refine Below.drew ?_) | (refine Below.alloc ?_ (by first | (simp; done) | (simp; omega) | omega) _) | (refine Below.setCell ?_ (by first | (simp; done) | (simp; omega) | omega) _) | (refine Below.trans ?_ (Below.mono (by assumption) (by first | (simp; done) | (simp; omega) | omega)))))⟩
  · clear g1 g2
    unfold spL
    go_enter Tryz.func12, Tryz.ntmps12
    go_wp2_with fail
    (with_reducible refine (iValidVector _ _ _ _).mono ?_)
    rintro e W1 ⟨rfl, hb1⟩
    have hs1 := hb1.size
    (try simp at hs1)
    obtain ⟨hc1, hf1⟩ := bcell hb1
    (try have hz0_1 : w.heap.size < W1.heap.size := by omega)
    (try have hy0_1 : w.heap.size + 1 < W1.heap.size := by omega)
    have hS1 := (hS0 _ _).below hb1
    go_wp2_with fail
    (with_reducible refine (iValidVector _ _ _ _).mono ?_)
    rintro e W2 ⟨rfl, hb2⟩
    have hs2 := hb2.size
    (try simp at hs2)
    obtain ⟨hc2, hf2⟩ := bcell hb2
    (try have hz0_2 : w.heap.size < W2.heap.size := by omega)
    (try have hy0_2 : w.heap.size + 1 < W2.heap.size := by omega)
    (try have hz1_2 : W1.heap.size < W2.heap.size := by omega)
    (try have hy1_2 : W1.heap.size + 1 < W2.heap.size := by omega)
    have hS2 := hS1.below hb2
    clear hS hS0 hS1
    go_wp2_with fail
    go_region_held3 (fun w' => w'.cell? ⟨w.heap.size, 0, none⟩ = some (.int .i64 0) ∧ w'.cell? ⟨w.heap.size, 1, none⟩ = some (.int .i64 0) ∧ w'.cell? ⟨w.heap.size, 2, none⟩ = some (.int .i64 c) ∧ w'.cell? ⟨w.heap.size + 1, 0, none⟩ = some (.int .i64 x) ∧ w'.cell? ⟨w.heap.size + 1, 1, none⟩ = some (.int .i64 y) ∧ w'.cell? ⟨w.heap.size + 1, 2, none⟩ = some (.int .i64 z) ∧ SinesIn w') ((refine ⟨?_, ?_, ?_, ?_, ?_, ?_, ?_⟩ <;> first | (simp [*, World.cell?_alloc_some, World.cell?_setCell_far, World.cell?_alloc_past, nn_e2, nn_e3, nn_e4, nn_f2, nn_f3, nn_f4, nn_l2, nn_l3, nn_l4, nn_m3, nn_m4, nn_k4]; done) | (first | assumption | (simp [*]; done) | (apply SinesIn.drewN; first | assumption | (simp [*]; done)) | (refine SinesIn.below' (by assumption) ?_; first | assumption | (simp [*]; done) | (apply SinesIn.drewN; first | assumption | (simp [*]; done)))))) (first | (go_at_call 28; (with_reducible refine (iCrossV _ _ _ _ _ _ _ (by omega) (by omega) (by omega) (by omega) (by omega) (by omega) (by omega) (by omega) (by omega) (by omega) (by omega) (by omega)).mono ?_); rintro e w' ⟨rfl, hb⟩; have hs := hb.size; (try simp at hs); (try have hz : w.heap.size < w'.heap.size := by omega); (try have hy : w.heap.size < w'.heap.size + 1 := by omega); (try have hyy : w.heap.size < w'.heap.size + 1 + 1 := by omega); (try have hz1 : w.heap.size + 1 < w'.heap.size := by omega); (try have hn : ¬ w'.heap.size = w.heap.size := by omega); (try have hn1 : ¬ w'.heap.size = w.heap.size + 1 := by omega); (try have hz2 : w.heap.size + 1 + 1 < w'.heap.size := by omega); (try have hq := Nat.lt_of_lt_of_le (by assumption) hs); (try have hq := Nat.lt_of_succ_le hs); obtain ⟨hc, hf⟩ := bcell hb; (try simp only [World.size_drew, World.cell?_drew, World.frozen?_drew, World.heap_drewN, World.cell?_drewN, World.frozen?_drewN] at hc hf)) | (go_at_call 29; (with_reducible refine (iDotV _ _ _ _ _ _ _ (by omega) (by omega) (by omega) (by omega) (by omega) (by omega) (by omega) (by omega) (by omega) (by omega) (by omega) (by omega)).mono ?_); rintro e w' ⟨rfl, hb⟩; have hs := hb.size; (try simp at hs); (try have hz : w.heap.size < w'.heap.size := by omega); (try have hy : w.heap.size < w'.heap.size + 1 := by omega); (try have hyy : w.heap.size < w'.heap.size + 1 + 1 := by omega); (try have hz1 : w.heap.size + 1 < w'.heap.size := by omega); (try have hn : ¬ w'.heap.size = w.heap.size := by omega); (try have hn1 : ¬ w'.heap.size = w.heap.size + 1 := by omega); (try have hz2 : w.heap.size + 1 + 1 < w'.heap.size := by omega); (try have hq := Nat.lt_of_lt_of_le (by assumption) hs); (try have hq := Nat.lt_of_succ_le hs); obtain ⟨hc, hf⟩ := bcell hb; (try simp only [World.size_drew, World.cell?_drew, World.frozen?_drew, World.heap_drewN, World.cell?_drewN, World.frozen?_drewN] at hc hf)) | (go_at_call 24; (with_reducible refine (iLength _ _ _ _ (by omega) (by omega) (by omega) (by omega) (by omega) (by omega)).mono ?_); rintro e w' ⟨rfl, hb⟩; have hs := hb.size; (try simp at hs); (try have hz : w.heap.size < w'.heap.size := by omega); (try have hy : w.heap.size < w'.heap.size + 1 := by omega); (try have hyy : w.heap.size < w'.heap.size + 1 + 1 := by omega); (try have hz1 : w.heap.size + 1 < w'.heap.size := by omega); (try have hn : ¬ w'.heap.size = w.heap.size := by omega); (try have hn1 : ¬ w'.heap.size = w.heap.size + 1 := by omega); (try have hz2 : w.heap.size + 1 + 1 < w'.heap.size := by omega); (try have hq := Nat.lt_of_lt_of_le (by assumption) hs); (try have hq := Nat.lt_of_succ_le hs); obtain ⟨hc, hf⟩ := bcell hb; (try simp only [World.size_drew, World.cell?_drew, World.frozen?_drew, World.heap_drewN, World.cell?_drewN, World.frozen?_drewN] at hc hf)) | (go_at_call 22; (with_reducible refine (iArcTangent _ _ _ (by first | assumption | (simp [*]; done) | (apply SinesIn.drewN; first | assumption | (simp [*]; done)) | (refine SinesIn.below' (by assumption) ?_; first | assumption | (simp [*]; done) | (apply SinesIn.drewN; first | assumption | (simp [*]; done))))).mono ?_); rintro e w' ⟨rfl, n, rfl⟩))
    go_wp2
    go_ret2
    exact ⟨rfl, by (repeat (first | exact Below.refl _ _ | assumption | (refine Below.drewN ?_ _) | (refine Below.drew ?_) | (refine Below.alloc ?_ (by first | (simp; done) | (simp; omega) | omega) _) | (refine Below.setCell ?_ (by first | (simp; done) | (simp; omega) | omega) _) | (refine Below.trans ?_ (Below.mono (by assumption) (by first | (simp; done) | (simp; omega) | omega)))))⟩
  · clear g1 g2
    unfold spL
    go_enter Tryz.func12, Tryz.ntmps12
    go_wp2_with fail
    (with_reducible refine (iValidVector _ _ _ _).mono ?_)
    rintro e W1 ⟨rfl, hb1⟩
    have hs1 := hb1.size
    (try simp at hs1)
    obtain ⟨hc1, hf1⟩ := bcell hb1
    (try have hz0_1 : w.heap.size < W1.heap.size := by omega)
    (try have hy0_1 : w.heap.size + 1 < W1.heap.size := by omega)
    have hS1 := (hS0 _ _).below hb1
    go_wp2_with fail
    (with_reducible refine (iValidVector _ _ _ _).mono ?_)
    rintro e W2 ⟨rfl, hb2⟩
    have hs2 := hb2.size
    (try simp at hs2)
    obtain ⟨hc2, hf2⟩ := bcell hb2
    (try have hz0_2 : w.heap.size < W2.heap.size := by omega)
    (try have hy0_2 : w.heap.size + 1 < W2.heap.size := by omega)
    (try have hz1_2 : W1.heap.size < W2.heap.size := by omega)
    (try have hy1_2 : W1.heap.size + 1 < W2.heap.size := by omega)
    have hS2 := hS1.below hb2
    clear hS hS0 hS1
    go_wp2_with fail
    go_region_held3 (fun w' => w'.cell? ⟨w.heap.size, 0, none⟩ = some (.int .i64 0) ∧ w'.cell? ⟨w.heap.size, 1, none⟩ = some (.int .i64 0) ∧ w'.cell? ⟨w.heap.size, 2, none⟩ = some (.int .i64 c) ∧ w'.cell? ⟨w.heap.size + 1, 0, none⟩ = some (.int .i64 0) ∧ w'.cell? ⟨w.heap.size + 1, 1, none⟩ = some (.int .i64 y) ∧ w'.cell? ⟨w.heap.size + 1, 2, none⟩ = some (.int .i64 z) ∧ SinesIn w') ((refine ⟨?_, ?_, ?_, ?_, ?_, ?_, ?_⟩ <;> first | (simp [*, World.cell?_alloc_some, World.cell?_setCell_far, World.cell?_alloc_past, nn_e2, nn_e3, nn_e4, nn_f2, nn_f3, nn_f4, nn_l2, nn_l3, nn_l4, nn_m3, nn_m4, nn_k4]; done) | (first | assumption | (simp [*]; done) | (apply SinesIn.drewN; first | assumption | (simp [*]; done)) | (refine SinesIn.below' (by assumption) ?_; first | assumption | (simp [*]; done) | (apply SinesIn.drewN; first | assumption | (simp [*]; done)))))) (first | (go_at_call 28; (with_reducible refine (iCrossV _ _ _ _ _ _ _ (by omega) (by omega) (by omega) (by omega) (by omega) (by omega) (by omega) (by omega) (by omega) (by omega) (by omega) (by omega)).mono ?_); rintro e w' ⟨rfl, hb⟩; have hs := hb.size; (try simp at hs); (try have hz : w.heap.size < w'.heap.size := by omega); (try have hy : w.heap.size < w'.heap.size + 1 := by omega); (try have hyy : w.heap.size < w'.heap.size + 1 + 1 := by omega); (try have hz1 : w.heap.size + 1 < w'.heap.size := by omega); (try have hn : ¬ w'.heap.size = w.heap.size := by omega); (try have hn1 : ¬ w'.heap.size = w.heap.size + 1 := by omega); (try have hz2 : w.heap.size + 1 + 1 < w'.heap.size := by omega); (try have hq := Nat.lt_of_lt_of_le (by assumption) hs); (try have hq := Nat.lt_of_succ_le hs); obtain ⟨hc, hf⟩ := bcell hb; (try simp only [World.size_drew, World.cell?_drew, World.frozen?_drew, World.heap_drewN, World.cell?_drewN, World.frozen?_drewN] at hc hf)) | (go_at_call 29; (with_reducible refine (iDotV _ _ _ _ _ _ _ (by omega) (by omega) (by omega) (by omega) (by omega) (by omega) (by omega) (by omega) (by omega) (by omega) (by omega) (by omega)).mono ?_); rintro e w' ⟨rfl, hb⟩; have hs := hb.size; (try simp at hs); (try have hz : w.heap.size < w'.heap.size := by omega); (try have hy : w.heap.size < w'.heap.size + 1 := by omega); (try have hyy : w.heap.size < w'.heap.size + 1 + 1 := by omega); (try have hz1 : w.heap.size + 1 < w'.heap.size := by omega); (try have hn : ¬ w'.heap.size = w.heap.size := by omega); (try have hn1 : ¬ w'.heap.size = w.heap.size + 1 := by omega); (try have hz2 : w.heap.size + 1 + 1 < w'.heap.size := by omega); (try have hq := Nat.lt_of_lt_of_le (by assumption) hs); (try have hq := Nat.lt_of_succ_le hs); obtain ⟨hc, hf⟩ := bcell hb; (try simp only [World.size_drew, World.cell?_drew, World.frozen?_drew, World.heap_drewN, World.cell?_drewN, World.frozen?_drewN] at hc hf)) | (go_at_call 24; (with_reducible refine (iLength _ _ _ _ (by omega) (by omega) (by omega) (by omega) (by omega) (by omega)).mono ?_); rintro e w' ⟨rfl, hb⟩; have hs := hb.size; (try simp at hs); (try have hz : w.heap.size < w'.heap.size := by omega); (try have hy : w.heap.size < w'.heap.size + 1 := by omega); (try have hyy : w.heap.size < w'.heap.size + 1 + 1 := by omega); (try have hz1 : w.heap.size + 1 < w'.heap.size := by omega); (try have hn : ¬ w'.heap.size = w.heap.size := by omega); (try have hn1 : ¬ w'.heap.size = w.heap.size + 1 := by omega); (try have hz2 : w.heap.size + 1 + 1 < w'.heap.size := by omega); (try have hq := Nat.lt_of_lt_of_le (by assumption) hs); (try have hq := Nat.lt_of_succ_le hs); obtain ⟨hc, hf⟩ := bcell hb; (try simp only [World.size_drew, World.cell?_drew, World.frozen?_drew, World.heap_drewN, World.cell?_drewN, World.frozen?_drewN] at hc hf)) | (go_at_call 22; (with_reducible refine (iArcTangent _ _ _ (by first | assumption | (simp [*]; done) | (apply SinesIn.drewN; first | assumption | (simp [*]; done)) | (refine SinesIn.below' (by assumption) ?_; first | assumption | (simp [*]; done) | (apply SinesIn.drewN; first | assumption | (simp [*]; done))))).mono ?_); rintro e w' ⟨rfl, n, rfl⟩))
    go_wp2
    go_ret2
    exact ⟨rfl, by (repeat (first | exact Below.refl _ _ | assumption | (refine Below.drewN ?_ _) | (refine Below.drew ?_) | (refine Below.alloc ?_ (by first | (simp; done) | (simp; omega) | omega) _) | (refine Below.setCell ?_ (by first | (simp; done) | (simp; omega) | omega) _) | (refine Below.trans ?_ (Below.mono (by assumption) (by first | (simp; done) | (simp; omega) | omega)))))⟩
  · clear g1 g2
    unfold spL
    go_enter Tryz.func12, Tryz.ntmps12
    go_wp2_with fail
    (with_reducible refine (iValidVector _ _ _ _).mono ?_)
    rintro e W1 ⟨rfl, hb1⟩
    have hs1 := hb1.size
    (try simp at hs1)
    obtain ⟨hc1, hf1⟩ := bcell hb1
    (try have hz0_1 : w.heap.size < W1.heap.size := by omega)
    (try have hy0_1 : w.heap.size + 1 < W1.heap.size := by omega)
    have hS1 := (hS0 _ _).below hb1
    go_wp2_with fail
    (with_reducible refine (iValidVector _ _ _ _).mono ?_)
    rintro e W2 ⟨rfl, hb2⟩
    have hs2 := hb2.size
    (try simp at hs2)
    obtain ⟨hc2, hf2⟩ := bcell hb2
    (try have hz0_2 : w.heap.size < W2.heap.size := by omega)
    (try have hy0_2 : w.heap.size + 1 < W2.heap.size := by omega)
    (try have hz1_2 : W1.heap.size < W2.heap.size := by omega)
    (try have hy1_2 : W1.heap.size + 1 < W2.heap.size := by omega)
    have hS2 := hS1.below hb2
    clear hS hS0 hS1
    go_wp2_with fail
    go_region_held3 (fun w' => w'.cell? ⟨w.heap.size, 0, none⟩ = some (.int .i64 0) ∧ w'.cell? ⟨w.heap.size, 1, none⟩ = some (.int .i64 0) ∧ w'.cell? ⟨w.heap.size, 2, none⟩ = some (.int .i64 c) ∧ w'.cell? ⟨w.heap.size + 1, 0, none⟩ = some (.int .i64 0) ∧ w'.cell? ⟨w.heap.size + 1, 1, none⟩ = some (.int .i64 0) ∧ w'.cell? ⟨w.heap.size + 1, 2, none⟩ = some (.int .i64 z) ∧ SinesIn w') ((refine ⟨?_, ?_, ?_, ?_, ?_, ?_, ?_⟩ <;> first | (simp [*, World.cell?_alloc_some, World.cell?_setCell_far, World.cell?_alloc_past, nn_e2, nn_e3, nn_e4, nn_f2, nn_f3, nn_f4, nn_l2, nn_l3, nn_l4, nn_m3, nn_m4, nn_k4]; done) | (first | assumption | (simp [*]; done) | (apply SinesIn.drewN; first | assumption | (simp [*]; done)) | (refine SinesIn.below' (by assumption) ?_; first | assumption | (simp [*]; done) | (apply SinesIn.drewN; first | assumption | (simp [*]; done)))))) (first | (go_at_call 28; (with_reducible refine (iCrossV _ _ _ _ _ _ _ (by omega) (by omega) (by omega) (by omega) (by omega) (by omega) (by omega) (by omega) (by omega) (by omega) (by omega) (by omega)).mono ?_); rintro e w' ⟨rfl, hb⟩; have hs := hb.size; (try simp at hs); (try have hz : w.heap.size < w'.heap.size := by omega); (try have hy : w.heap.size < w'.heap.size + 1 := by omega); (try have hyy : w.heap.size < w'.heap.size + 1 + 1 := by omega); (try have hz1 : w.heap.size + 1 < w'.heap.size := by omega); (try have hn : ¬ w'.heap.size = w.heap.size := by omega); (try have hn1 : ¬ w'.heap.size = w.heap.size + 1 := by omega); (try have hz2 : w.heap.size + 1 + 1 < w'.heap.size := by omega); (try have hq := Nat.lt_of_lt_of_le (by assumption) hs); (try have hq := Nat.lt_of_succ_le hs); obtain ⟨hc, hf⟩ := bcell hb; (try simp only [World.size_drew, World.cell?_drew, World.frozen?_drew, World.heap_drewN, World.cell?_drewN, World.frozen?_drewN] at hc hf)) | (go_at_call 29; (with_reducible refine (iDotV _ _ _ _ _ _ _ (by omega) (by omega) (by omega) (by omega) (by omega) (by omega) (by omega) (by omega) (by omega) (by omega) (by omega) (by omega)).mono ?_); rintro e w' ⟨rfl, hb⟩; have hs := hb.size; (try simp at hs); (try have hz : w.heap.size < w'.heap.size := by omega); (try have hy : w.heap.size < w'.heap.size + 1 := by omega); (try have hyy : w.heap.size < w'.heap.size + 1 + 1 := by omega); (try have hz1 : w.heap.size + 1 < w'.heap.size := by omega); (try have hn : ¬ w'.heap.size = w.heap.size := by omega); (try have hn1 : ¬ w'.heap.size = w.heap.size + 1 := by omega); (try have hz2 : w.heap.size + 1 + 1 < w'.heap.size := by omega); (try have hq := Nat.lt_of_lt_of_le (by assumption) hs); (try have hq := Nat.lt_of_succ_le hs); obtain ⟨hc, hf⟩ := bcell hb; (try simp only [World.size_drew, World.cell?_drew, World.frozen?_drew, World.heap_drewN, World.cell?_drewN, World.frozen?_drewN] at hc hf)) | (go_at_call 24; (with_reducible refine (iLength _ _ _ _ (by omega) (by omega) (by omega) (by omega) (by omega) (by omega)).mono ?_); rintro e w' ⟨rfl, hb⟩; have hs := hb.size; (try simp at hs); (try have hz : w.heap.size < w'.heap.size := by omega); (try have hy : w.heap.size < w'.heap.size + 1 := by omega); (try have hyy : w.heap.size < w'.heap.size + 1 + 1 := by omega); (try have hz1 : w.heap.size + 1 < w'.heap.size := by omega); (try have hn : ¬ w'.heap.size = w.heap.size := by omega); (try have hn1 : ¬ w'.heap.size = w.heap.size + 1 := by omega); (try have hz2 : w.heap.size + 1 + 1 < w'.heap.size := by omega); (try have hq := Nat.lt_of_lt_of_le (by assumption) hs); (try have hq := Nat.lt_of_succ_le hs); obtain ⟨hc, hf⟩ := bcell hb; (try simp only [World.size_drew, World.cell?_drew, World.frozen?_drew, World.heap_drewN, World.cell?_drewN, World.frozen?_drewN] at hc hf)) | (go_at_call 22; (with_reducible refine (iArcTangent _ _ _ (by first | assumption | (simp [*]; done) | (apply SinesIn.drewN; first | assumption | (simp [*]; done)) | (refine SinesIn.below' (by assumption) ?_; first | assumption | (simp [*]; done) | (apply SinesIn.drewN; first | assumption | (simp [*]; done))))).mono ?_); rintro e w' ⟨rfl, n, rfl⟩))
    go_wp2
    go_ret2
    exact ⟨rfl, by (repeat (first | exact Below.refl _ _ | assumption | (refine Below.drewN ?_ _) | (refine Below.drew ?_) | (refine Below.alloc ?_ (by first | (simp; done) | (simp; omega) | omega) _) | (refine Below.setCell ?_ (by first | (simp; done) | (simp; omega) | omega) _) | (refine Below.trans ?_ (Below.mono (by assumption) (by first | (simp; done) | (simp; omega) | omega)))))⟩
end Go.Proofs.YtmkmhljiajgibaaGreatDoor
