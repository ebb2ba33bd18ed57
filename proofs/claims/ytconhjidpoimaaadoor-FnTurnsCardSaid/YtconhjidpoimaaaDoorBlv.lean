/-
  Contracts of directions between two vectors.
-/
import Derived.Test.YtconhjidpoimaaaDoorVec2
namespace Go.Proofs.YtconhjidpoimaaaDoor
set_option linter.unusedVariables false
set_option linter.unusedSimpArgs false
open Go.RowKit
attribute [local go_sem ↓] Go.wp_at_zero Go.wp_at_succ
attribute [local go_sem] nn_e2 nn_e3 nn_e4 nn_f2 nn_f3 nn_f4 nn_l2 nn_l3 nn_l4 nn_m3 nn_m4 nn_k4

def shB (a b s : Int) : Int := a + divR ((b - a) * s) 1000
theorem shB_blend {a b s : Int} (h0 : 0 ≤ s) (h1 : s ≤ 1000) : blendF 0 a 1000 b s = shB a b s := by
  unfold blendF shB
  by_cases c1 : s ≤ 0
  · obtain rfl : s = 0 := by omega
    rw [if_pos (by omega), Int.mul_zero, show divR 0 1000 = 0 by decide]; omega
  · rw [if_neg (by omega)]
    by_cases c2 : 1000 ≤ s
    · obtain rfl : s = 1000 := by omega
      rw [if_pos (by omega)]
      by_cases c3 : b - a < 0
      · rw [divR_neg (by omega) (by omega), ← Int.neg_mul, qr_mul (by omega)]; omega
      · rw [divR_nonneg (by omega) (by omega), qr_mul (by omega)]; omega
    · rw [if_neg (by omega), show s - 0 = s by omega, show (1000 : Int) - 0 = 1000 by omega]
theorem shB_bd {a b s : Int} (h0 : 0 ≤ s) (h1 : s ≤ 1000) (a1 : -2000000 ≤ a) (a2 : a ≤ 2000000) (b1 : -2000000 ≤ b) (b2 : b ≤ 2000000) : -2000000 ≤ shB a b s ∧ shB a b s ≤ 2000000 := by
  rw [← shB_blend h0 h1]; exact blendF_bd a1 a2 b1 b2
theorem iBlend1 (a b s : Int) (w : World) (h0 : 0 ≤ s) (h1 : s ≤ 1000) (a1 : -2000000 ≤ a) (a2 : a ≤ 2000000) (b1 : -2000000 ≤ b) (b2 : b ≤ 2000000) :
    Calls Tryd.prog 42 #[.int .i64 0, .int .i64 a, .int .i64 1000, .int .i64 b, .int .i64 s] w fun e w' => e = .returned (.int .i64 (shB a b s)) ∧ ∃ n, w' = w.drewN n := by
  rw [← shB_blend h0 h1]
  exact iBlend _ _ _ _ _ _ (by omega) (by omega) (by omega) (by omega) (by omega) (by omega) (by omega) (by omega)
noncomputable def bvV (v a b c x y z s : Int) : Int := if okV a b c && okV x y z && inB s 0 1000 then nvV v (shB a x s) (shB b y s) (shB c z s) else 0
noncomputable def bvC (a b c x y z s : Int) : Int := if okV a b c && okV x y z then (if inB s 0 1000 then nvC (shB a x s) (shB b y s) (shB c z s) else 2) else 1
noncomputable def bvRet (a b c x y z s : Int) : Value := .tuple #[.agg #[.int .i64 (bvV (shB a x s) a b c x y z s), .int .i64 (bvV (shB b y s) a b c x y z s), .int .i64 (bvV (shB c z s) a b c x y z s)], .int .i64 (bvC a b c x y z s)]
theorem bv_no {a b c x y z s k : Int} (h : (okV a b c && okV x y z && inB s 0 1000) = false) (hk : bvC a b c x y z s = k) : bvRet a b c x y z s = .tuple #[.agg #[.int .i64 0, .int .i64 0, .int .i64 0], .int .i64 k] := by
  subst hk; simp [bvRet, bvV, h]
theorem bv_yes {a b c x y z s : Int} (h1 : okV a b c = true) (h2 : okV x y z = true) (h3 : inB s 0 1000 = true) : bvRet a b c x y z s = .tuple #[.agg #[.int .i64 (nvV (shB a x s) (shB a x s) (shB b y s) (shB c z s)), .int .i64 (nvV (shB b y s) (shB a x s) (shB b y s) (shB c z s)), .int .i64 (nvV (shB c z s) (shB a x s) (shB b y s) (shB c z s))], .int .i64 (nvC (shB a x s) (shB b y s) (shB c z s))] := by
  simp [bvRet, bvV, bvC, h1, h2, h3]
set_option maxHeartbeats 4000000 in
theorem iBlendV (a b c x y z s : Int) (w : World) :
    Calls Tryd.prog 18 #[.agg #[.int .i64 a, .int .i64 b, .int .i64 c], .agg #[.int .i64 x, .int .i64 y, .int .i64 z], .int .i64 s] w fun e w' => e = .returned (bvRet a b c x y z s) ∧ Below w.heap.size w w' := by
  cases h1 : okV a b c
  · rw [bv_no (k := 1) (by rw [h1]; rfl) (by simp [bvC, h1])]
    go_enter Tryd.func18, Tryd.ntmps18
    go_wp2_with (go_at_call 23; (with_reducible refine (iValidVector _ _ _ _).mono ?_); rintro e w' ⟨rfl, hb⟩; have hs := hb.size; (try simp at hs); (try have hz : w.heap.size < w'.heap.size := by omega); (try have hy : w.heap.size < w'.heap.size + 1 := by omega); (try have hyy : w.heap.size < w'.heap.size + 1 + 1 := by omega); (try have hz1 : w.heap.size + 1 < w'.heap.size := by omega); (try have hn : ¬ w'.heap.size = w.heap.size := by omega); (try have hn1 : ¬ w'.heap.size = w.heap.size + 1 := by omega); (try have hz2 : w.heap.size + 1 + 1 < w'.heap.size := by omega); (try have hq := Nat.lt_of_lt_of_le (by assumption) hs); (try have hq := Nat.lt_of_succ_le hs); obtain ⟨hc, hf⟩ := bcell hb; (try simp only [World.size_drew, World.cell?_drew, World.frozen?_drew, World.heap_drewN, World.cell?_drewN, World.frozen?_drewN] at hc hf))
    exact bodyPost_ret (v := .tuple #[.agg #[.int .i64 0, .int .i64 0, .int .i64 0], .int .i64 1]) (by simp [results, Tryd.results18, go_sem, *]) rfl ⟨rfl, by (repeat (first | exact Below.refl _ _ | assumption | (refine Below.drewN ?_ _) | (refine Below.drew ?_) | (refine Below.alloc ?_ (by first | (simp; done) | (simp; omega) | omega) _) | (refine Below.setCell ?_ (by first | (simp; done) | (simp; omega) | omega) _) | (refine Below.trans ?_ (Below.mono (by assumption) (by first | (simp; done) | (simp; omega) | omega)))))⟩
  cases h2 : okV x y z
  · rw [bv_no (k := 1) (by rw [h1, h2]; rfl) (by simp [bvC, h2])]
    go_enter Tryd.func18, Tryd.ntmps18
    go_wp2_with (go_at_call 23; (with_reducible refine (iValidVector _ _ _ _).mono ?_); rintro e w' ⟨rfl, hb⟩; have hs := hb.size; (try simp at hs); (try have hz : w.heap.size < w'.heap.size := by omega); (try have hy : w.heap.size < w'.heap.size + 1 := by omega); (try have hyy : w.heap.size < w'.heap.size + 1 + 1 := by omega); (try have hz1 : w.heap.size + 1 < w'.heap.size := by omega); (try have hn : ¬ w'.heap.size = w.heap.size := by omega); (try have hn1 : ¬ w'.heap.size = w.heap.size + 1 := by omega); (try have hz2 : w.heap.size + 1 + 1 < w'.heap.size := by omega); (try have hq := Nat.lt_of_lt_of_le (by assumption) hs); (try have hq := Nat.lt_of_succ_le hs); obtain ⟨hc, hf⟩ := bcell hb; (try simp only [World.size_drew, World.cell?_drew, World.frozen?_drew, World.heap_drewN, World.cell?_drewN, World.frozen?_drewN] at hc hf))
    exact bodyPost_ret (v := .tuple #[.agg #[.int .i64 0, .int .i64 0, .int .i64 0], .int .i64 1]) (by simp [results, Tryd.results18, go_sem, *]) rfl ⟨rfl, by (repeat (first | exact Below.refl _ _ | assumption | (refine Below.drewN ?_ _) | (refine Below.drew ?_) | (refine Below.alloc ?_ (by first | (simp; done) | (simp; omega) | omega) _) | (refine Below.setCell ?_ (by first | (simp; done) | (simp; omega) | omega) _) | (refine Below.trans ?_ (Below.mono (by assumption) (by first | (simp; done) | (simp; omega) | omega)))))⟩
  cases h3 : inB s 0 1000
  · rw [bv_no (k := 2) (by rw [h1, h2, h3]; rfl) (by simp [bvC, h1, h2, h3])]
    go_enter Tryd.func18, Tryd.ntmps18
    go_wp2_with (first | (go_at_call 23; (with_reducible refine (iValidVector _ _ _ _).mono ?_); rintro e w' ⟨rfl, hb⟩; have hs := hb.size; (try simp at hs); (try have hz : w.heap.size < w'.heap.size := by omega); (try have hy : w.heap.size < w'.heap.size + 1 := by omega); (try have hyy : w.heap.size < w'.heap.size + 1 + 1 := by omega); (try have hz1 : w.heap.size + 1 < w'.heap.size := by omega); (try have hn : ¬ w'.heap.size = w.heap.size := by omega); (try have hn1 : ¬ w'.heap.size = w.heap.size + 1 := by omega); (try have hz2 : w.heap.size + 1 + 1 < w'.heap.size := by omega); (try have hq := Nat.lt_of_lt_of_le (by assumption) hs); (try have hq := Nat.lt_of_succ_le hs); obtain ⟨hc, hf⟩ := bcell hb; (try simp only [World.size_drew, World.cell?_drew, World.frozen?_drew, World.heap_drewN, World.cell?_drewN, World.frozen?_drewN] at hc hf)) | (go_at_call 41; (with_reducible refine (iWithin _ _ _ _).mono ?_); rintro e w' ⟨rfl, rfl⟩))
    exact bodyPost_ret (v := .tuple #[.agg #[.int .i64 0, .int .i64 0, .int .i64 0], .int .i64 2]) (by simp [results, Tryd.results18, go_sem, *]) rfl ⟨rfl, by (repeat (first | exact Below.refl _ _ | assumption | (refine Below.drewN ?_ _) | (refine Below.drew ?_) | (refine Below.alloc ?_ (by first | (simp; done) | (simp; omega) | omega) _) | (refine Below.setCell ?_ (by first | (simp; done) | (simp; omega) | omega) _) | (refine Below.trans ?_ (Below.mono (by assumption) (by first | (simp; done) | (simp; omega) | omega)))))⟩
  rw [bv_yes h1 h2 h3]
  obtain ⟨⟨a1, a2⟩, ⟨b1, b2⟩, c1, c2⟩ := okV_t h1
  obtain ⟨⟨x1, x2⟩, ⟨y1, y2⟩, z1, z2⟩ := okV_t h2
  obtain ⟨s1, s2⟩ := inB_t h3
  go_enter Tryd.func18, Tryd.ntmps18
  go_wp2_with (first | (go_at_call 23; (with_reducible refine (iValidVector _ _ _ _).mono ?_); rintro e w' ⟨rfl, hb⟩; have hs := hb.size; (try simp at hs); (try have hz : w.heap.size < w'.heap.size := by omega); (try have hy : w.heap.size < w'.heap.size + 1 := by omega); (try have hyy : w.heap.size < w'.heap.size + 1 + 1 := by omega); (try have hz1 : w.heap.size + 1 < w'.heap.size := by omega); (try have hn : ¬ w'.heap.size = w.heap.size := by omega); (try have hn1 : ¬ w'.heap.size = w.heap.size + 1 := by omega); (try have hz2 : w.heap.size + 1 + 1 < w'.heap.size := by omega); (try have hq := Nat.lt_of_lt_of_le (by assumption) hs); (try have hq := Nat.lt_of_succ_le hs); obtain ⟨hc, hf⟩ := bcell hb; (try simp only [World.size_drew, World.cell?_drew, World.frozen?_drew, World.heap_drewN, World.cell?_drewN, World.frozen?_drewN] at hc hf)) | (go_at_call 41; (with_reducible refine (iWithin _ _ _ _).mono ?_); rintro e w' ⟨rfl, rfl⟩))
  go_region_held3 (fun w' => w'.cell? ⟨w.heap.size, 0, none⟩ = some (.int .i64 a) ∧ w'.cell? ⟨w.heap.size, 1, none⟩ = some (.int .i64 b) ∧ w'.cell? ⟨w.heap.size, 2, none⟩ = some (.int .i64 c) ∧ w'.cell? ⟨w.heap.size + 1, 0, none⟩ = some (.int .i64 x) ∧ w'.cell? ⟨w.heap.size + 1, 1, none⟩ = some (.int .i64 y) ∧ w'.cell? ⟨w.heap.size + 1, 2, none⟩ = some (.int .i64 z)) (simp [*, World.cell?_alloc_some, World.cell?_setCell_far, World.cell?_alloc_past, nn_e2, nn_e3, nn_e4, nn_f2, nn_f3, nn_f4, nn_l2, nn_l3, nn_l4, nn_m3, nn_m4, nn_k4]) (first | (go_at_call 42; (with_reducible refine (iBlend1 _ _ _ _ (by omega) (by omega) (by omega) (by omega) (by omega) (by omega)).mono ?_); rintro e w' ⟨rfl, n, rfl⟩) | (go_at_call 19; (with_reducible refine (iNormal _ _ _ _).mono ?_); rintro e w' ⟨rfl, hb⟩; have hs := hb.size; (try simp at hs); (try have hz : w.heap.size < w'.heap.size := by omega); (try have hy : w.heap.size < w'.heap.size + 1 := by omega); (try have hyy : w.heap.size < w'.heap.size + 1 + 1 := by omega); (try have hz1 : w.heap.size + 1 < w'.heap.size := by omega); (try have hn : ¬ w'.heap.size = w.heap.size := by omega); (try have hn1 : ¬ w'.heap.size = w.heap.size + 1 := by omega); (try have hz2 : w.heap.size + 1 + 1 < w'.heap.size := by omega); (try have hq := Nat.lt_of_lt_of_le (by assumption) hs); (try have hq := Nat.lt_of_succ_le hs); obtain ⟨hc, hf⟩ := bcell hb; (try simp only [World.size_drew, World.cell?_drew, World.frozen?_drew, World.heap_drewN, World.cell?_drewN, World.frozen?_drewN] at hc hf)))
  go_wp2
  exact bodyPost_ret (v := .tuple #[.agg #[.int .i64 (nvV (shB a x s) (shB a x s) (shB b y s) (shB c z s)), .int .i64 (nvV (shB b y s) (shB a x s) (shB b y s) (shB c z s)), .int .i64 (nvV (shB c z s) (shB a x s) (shB b y s) (shB c z s))], .int .i64 (nvC (shB a x s) (shB b y s) (shB c z s))]) (by simp [results, Tryd.results18, go_sem, *]) rfl ⟨rfl, by (repeat (first | exact Below.refl _ _ | assumption | (refine Below.drewN ?_ _) | (refine Below.drew ?_) | (refine Below.alloc ?_ (by first | (simp; done) | (simp; omega) | omega) _) | (refine Below.setCell ?_ (by first | (simp; done) | (simp; omega) | omega) _) | (refine Below.trans ?_ (Below.mono (by assumption) (by first | (simp; done) | (simp; omega) | omega)))))⟩
noncomputable def bvX (a b c x y z s : Int) : Int := bvV (shB a x s) a b c x y z s
noncomputable def bvY (a b c x y z s : Int) : Int := bvV (shB b y s) a b c x y z s
noncomputable def bvZ (a b c x y z s : Int) : Int := bvV (shB c z s) a b c x y z s
theorem iBlendVe (a b c x y z s : Int) (w : World) :
    Calls Tryd.prog 18 #[.agg #[.int .i64 a, .int .i64 b, .int .i64 c], .agg #[.int .i64 x, .int .i64 y, .int .i64 z], .int .i64 s] w fun e w' => e = .returned (.tuple #[.agg #[.int .i64 (bvX a b c x y z s), .int .i64 (bvY a b c x y z s), .int .i64 (bvZ a b c x y z s)], .int .i64 (bvC a b c x y z s)]) ∧ Below w.heap.size w w' := iBlendV a b c x y z s w
end Go.Proofs.YtconhjidpoimaaaDoor
