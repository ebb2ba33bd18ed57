/-
  Contracts of the direction of two angles.
-/
import Derived.Test.YtgeipijifcebmaaDoorSin
import Derived.Test.YtgeipijifcebmaaDoorVec
namespace Go.Proofs.YtgeipijifcebmaaDoor
set_option linter.unusedVariables false
set_option linter.unusedSimpArgs false
open Go.RowKit

theorem mul_ok1 {a b : Int} (h1 : -1000000 ≤ a) (h2 : a ≤ 1000000) (h3 : -1000000 ≤ b) (h4 : b ≤ 1000000) : -1000000000000 ≤ a * b ∧ a * b ≤ 1000000000000 := by
  have := mul_bd2 h1 h2 h3 h4 (by omega) (by omega)
  omega
def diX (l b : Int) : Int := divR (cosI b * cosI l) 1000000
def diY (l b : Int) : Int := divR (cosI b * sinI l) 1000000
def diZ (b : Int) : Int := sinI b
theorem iDirV (l b : Int) (w : World) (h1 : -9223372036854775808 ≤ l) (h2 : l ≤ 9223372036854775807) (h3 : -9223372036854775808 ≤ b) (h4 : b ≤ 9223372036854775807) (hS : SinesIn w) :
    Calls Tryd.prog 62 #[.int .i64 l, .int .i64 b] w fun e w' => e = .returned (.agg #[.int .i64 (diX l b), .int .i64 (diY l b), .int .i64 (diZ b)]) ∧ Below w.heap.size w w' := by
  unfold diX diY diZ
  have c1 := cosI_bd b
  have c2 := cosI_bd l
  have c3 := sinI_bd l
  have m1 := mul_ok1 c1.1 c1.2 c2.1 c2.2
  have m2 := mul_ok1 c1.1 c1.2 c3.1 c3.2
  have hS1 := fun o => SinesIn.alloc hS o
  go_enter Tryd.func62, Tryd.ntmps62
  go_wp2_with (first | (go_at_call 18; (with_reducible refine (iCosineOf _ _ (by omega) (by omega) (by first | exact hS1 _ | exact SinesIn.drewN (hS1 _) _)).mono ?_); rintro e w' ⟨rfl, n, rfl⟩) | (go_at_call 16; (with_reducible refine (iSineOf _ _ (by omega) (by omega) (by first | exact hS1 _ | exact SinesIn.drewN (hS1 _) _)).mono ?_); rintro e w' ⟨rfl, n, rfl⟩) | (go_at_call 74; (with_reducible refine (iNearest _ _ _ (by omega) (by omega) (by omega) (by omega) (by omega)).mono ?_); rintro e w' ⟨rfl, n, rfl⟩))
  exact bodyPost_ret (v := .agg #[.int .i64 (divR (cosI b * cosI l) 1000000), .int .i64 (divR (cosI b * sinI l) 1000000), .int .i64 (sinI b)]) (by simp [results, Tryd.results62, go_sem, *]) rfl ⟨rfl, by (repeat (first | exact Below.refl _ _ | assumption | (refine Below.drewN ?_ _) | (refine Below.drew ?_) | (refine Below.alloc ?_ (by first | (simp; done) | (simp; omega) | omega) _) | (refine Below.setCell ?_ (by first | (simp; done) | (simp; omega) | omega) _) | (refine Below.trans ?_ (Below.mono (by assumption) (by first | (simp; done) | (simp; omega) | omega)))))⟩
theorem sDirV (l b : Int) (w : World) (h1 : -9223372036854775808 ≤ l) (h2 : l ≤ 9223372036854775807) (h3 : -9223372036854775808 ≤ b) (h4 : b ≤ 9223372036854775807) :
    Calls Tryd.prog 61 #[.int .i64 l, .int .i64 b] w fun e w' => e = .returned (.agg #[.int .i64 (diX l b), .int .i64 (diY l b), .int .i64 (diZ b)]) ∧ Below w.heap.size w w' := by
  unfold diX diY diZ
  have c1 := cosI_bd b
  have c2 := cosI_bd l
  have c3 := sinI_bd l
  have m1 := mul_ok1 c1.1 c1.2 c2.1 c2.2
  have m2 := mul_ok1 c1.1 c1.2 c3.1 c3.2
  go_enter Tryd.func61, Tryd.ntmps61
  go_wp2_with (first | (go_at_call 58; (with_reducible refine (sCosine _ _ (by omega) (by omega)).mono ?_); rintro e w' ⟨rfl, hb⟩; have hs := hb.size; (try simp at hs); (try have hz : w.heap.size < w'.heap.size := by omega); (try have hy : w.heap.size < w'.heap.size + 1 := by omega); (try have hyy : w.heap.size < w'.heap.size + 1 + 1 := by omega); (try have hz1 : w.heap.size + 1 < w'.heap.size := by omega); (try have hn : ¬ w'.heap.size = w.heap.size := by omega); (try have hn1 : ¬ w'.heap.size = w.heap.size + 1 := by omega); (try have hz2 : w.heap.size + 1 + 1 < w'.heap.size := by omega); (try have hq := Nat.lt_of_lt_of_le (by assumption) hs); (try have hq := Nat.lt_of_succ_le hs); obtain ⟨hc, hf⟩ := bcell hb; (try simp only [World.size_drew, World.cell?_drew, World.frozen?_drew, World.heap_drewN, World.cell?_drewN, World.frozen?_drewN] at hc hf)) | (go_at_call 55; (with_reducible refine (sSine _ _ (by omega) (by omega)).mono ?_); rintro e w' ⟨rfl, hb⟩; have hs := hb.size; (try simp at hs); (try have hz : w.heap.size < w'.heap.size := by omega); (try have hy : w.heap.size < w'.heap.size + 1 := by omega); (try have hyy : w.heap.size < w'.heap.size + 1 + 1 := by omega); (try have hz1 : w.heap.size + 1 < w'.heap.size := by omega); (try have hn : ¬ w'.heap.size = w.heap.size := by omega); (try have hn1 : ¬ w'.heap.size = w.heap.size + 1 := by omega); (try have hz2 : w.heap.size + 1 + 1 < w'.heap.size := by omega); (try have hq := Nat.lt_of_lt_of_le (by assumption) hs); (try have hq := Nat.lt_of_succ_le hs); obtain ⟨hc, hf⟩ := bcell hb; (try simp only [World.size_drew, World.cell?_drew, World.frozen?_drew, World.heap_drewN, World.cell?_drewN, World.frozen?_drewN] at hc hf)) | (go_at_call 89; (with_reducible refine (sDiv _ _ _ (by omega) (by omega) (by omega) (by omega) (by omega)).mono ?_); rintro e w' ⟨rfl, rfl⟩))
  exact bodyPost_ret (v := .agg #[.int .i64 (divR (cosI b * cosI l) 1000000), .int .i64 (divR (cosI b * sinI l) 1000000), .int .i64 (sinI b)]) (by simp [results, Tryd.results61, go_sem, *]) rfl ⟨rfl, by (repeat (first | exact Below.refl _ _ | assumption | (refine Below.drewN ?_ _) | (refine Below.drew ?_) | (refine Below.alloc ?_ (by first | (simp; done) | (simp; omega) | omega) _) | (refine Below.setCell ?_ (by first | (simp; done) | (simp; omega) | omega) _) | (refine Below.trans ?_ (Below.mono (by assumption) (by first | (simp; done) | (simp; omega) | omega)))))⟩
def doX (l b : Int) : Int := if inB b (-90000) 90000 then diX l b else 0
def doY (l b : Int) : Int := if inB b (-90000) 90000 then diY l b else 0
def doZ (l b : Int) : Int := if inB b (-90000) 90000 then diZ b else 0
def doC (b : Int) : Int := if inB b (-90000) 90000 then 0 else 2
theorem iDirection (l b : Int) (w : World) (h1 : -9223372036854775808 ≤ l) (h2 : l ≤ 9223372036854775807) (hS : SinesIn w) :
    Calls Tryd.prog 22 #[.int .i64 l, .int .i64 b] w fun e w' => e = .returned (.tuple #[.agg #[.int .i64 (doX l b), .int .i64 (doY l b), .int .i64 (doZ l b)], .int .i64 (doC b)]) ∧ Below w.heap.size w w' := by
  unfold doX doY doZ doC
  cases h : inB b (-90000) 90000
  · go_enter Tryd.func22, Tryd.ntmps22
    go_wp2_with (go_at_call 60; (with_reducible refine (iWithin _ _ _ _).mono ?_); rintro e w' ⟨rfl, rfl⟩)
    exact bodyPost_ret (v := .tuple #[.agg #[.int .i64 0, .int .i64 0, .int .i64 0], .int .i64 2]) (by simp [results, Tryd.results22, go_sem, *]) rfl ⟨rfl, by (repeat (first | exact Below.refl _ _ | assumption | (refine Below.drewN ?_ _) | (refine Below.drew ?_) | (refine Below.alloc ?_ (by first | (simp; done) | (simp; omega) | omega) _) | (refine Below.setCell ?_ (by first | (simp; done) | (simp; omega) | omega) _) | (refine Below.trans ?_ (Below.mono (by assumption) (by first | (simp; done) | (simp; omega) | omega)))))⟩
  · have hb0 := inB_t h
    have hS1 := fun o => SinesIn.alloc hS o
    go_enter Tryd.func22, Tryd.ntmps22
    go_wp2_with (first | (go_at_call 60; (with_reducible refine (iWithin _ _ _ _).mono ?_); rintro e w' ⟨rfl, rfl⟩) | (go_at_call 62; (with_reducible refine (iDirV _ _ _ (by omega) (by omega) (by omega) (by omega) (hS1 _)).mono ?_); rintro e w' ⟨rfl, hb⟩; have hs := hb.size; (try simp at hs); (try have hz : w.heap.size < w'.heap.size := by omega); (try have hy : w.heap.size < w'.heap.size + 1 := by omega); (try have hyy : w.heap.size < w'.heap.size + 1 + 1 := by omega); (try have hz1 : w.heap.size + 1 < w'.heap.size := by omega); (try have hn : ¬ w'.heap.size = w.heap.size := by omega); (try have hn1 : ¬ w'.heap.size = w.heap.size + 1 := by omega); (try have hz2 : w.heap.size + 1 + 1 < w'.heap.size := by omega); (try have hq := Nat.lt_of_lt_of_le (by assumption) hs); (try have hq := Nat.lt_of_succ_le hs); obtain ⟨hc, hf⟩ := bcell hb; (try simp only [World.size_drew, World.cell?_drew, World.frozen?_drew, World.heap_drewN, World.cell?_drewN, World.frozen?_drewN] at hc hf)))
    exact bodyPost_ret (v := .tuple #[.agg #[.int .i64 (diX l b), .int .i64 (diY l b), .int .i64 (diZ b)], .int .i64 0]) (by simp [results, Tryd.results22, go_sem, *]) rfl ⟨rfl, by (repeat (first | exact Below.refl _ _ | assumption | (refine Below.drewN ?_ _) | (refine Below.drew ?_) | (refine Below.alloc ?_ (by first | (simp; done) | (simp; omega) | omega) _) | (refine Below.setCell ?_ (by first | (simp; done) | (simp; omega) | omega) _) | (refine Below.trans ?_ (Below.mono (by assumption) (by first | (simp; done) | (simp; omega) | omega)))))⟩
theorem sDirection (l b : Int) (w : World) (h1 : -9223372036854775808 ≤ l) (h2 : l ≤ 9223372036854775807) :
    Calls Tryd.prog 21 #[.int .i64 l, .int .i64 b] w fun e w' => e = .returned (.tuple #[.agg #[.int .i64 (doX l b), .int .i64 (doY l b), .int .i64 (doZ l b)], .int .i64 (doC b)]) ∧ Below w.heap.size w w' := by
  unfold doX doY doZ doC
  cases h : inB b (-90000) 90000
  · go_enter Tryd.func21, Tryd.ntmps21
    go_wp2_with (go_at_call 59; (with_reducible refine (sIn _ _ _ _).mono ?_); rintro e w' ⟨rfl, rfl⟩)
    exact bodyPost_ret (v := .tuple #[.agg #[.int .i64 0, .int .i64 0, .int .i64 0], .int .i64 2]) (by simp [results, Tryd.results21, go_sem, *]) rfl ⟨rfl, by (repeat (first | exact Below.refl _ _ | assumption | (refine Below.drewN ?_ _) | (refine Below.drew ?_) | (refine Below.alloc ?_ (by first | (simp; done) | (simp; omega) | omega) _) | (refine Below.setCell ?_ (by first | (simp; done) | (simp; omega) | omega) _) | (refine Below.trans ?_ (Below.mono (by assumption) (by first | (simp; done) | (simp; omega) | omega)))))⟩
  · have hb0 := inB_t h
    go_enter Tryd.func21, Tryd.ntmps21
    go_wp2_with (first | (go_at_call 59; (with_reducible refine (sIn _ _ _ _).mono ?_); rintro e w' ⟨rfl, rfl⟩) | (go_at_call 61; (with_reducible refine (sDirV _ _ _ (by omega) (by omega) (by omega) (by omega)).mono ?_); rintro e w' ⟨rfl, hb⟩; have hs := hb.size; (try simp at hs); (try have hz : w.heap.size < w'.heap.size := by omega); (try have hy : w.heap.size < w'.heap.size + 1 := by omega); (try have hyy : w.heap.size < w'.heap.size + 1 + 1 := by omega); (try have hz1 : w.heap.size + 1 < w'.heap.size := by omega); (try have hn : ¬ w'.heap.size = w.heap.size := by omega); (try have hn1 : ¬ w'.heap.size = w.heap.size + 1 := by omega); (try have hz2 : w.heap.size + 1 + 1 < w'.heap.size := by omega); (try have hq := Nat.lt_of_lt_of_le (by assumption) hs); (try have hq := Nat.lt_of_succ_le hs); obtain ⟨hc, hf⟩ := bcell hb; (try simp only [World.size_drew, World.cell?_drew, World.frozen?_drew, World.heap_drewN, World.cell?_drewN, World.frozen?_drewN] at hc hf)))
    exact bodyPost_ret (v := .tuple #[.agg #[.int .i64 (diX l b), .int .i64 (diY l b), .int .i64 (diZ b)], .int .i64 0]) (by simp [results, Tryd.results21, go_sem, *]) rfl ⟨rfl, by (repeat (first | exact Below.refl _ _ | assumption | (refine Below.drewN ?_ _) | (refine Below.drew ?_) | (refine Below.alloc ?_ (by first | (simp; done) | (simp; omega) | omega) _) | (refine Below.setCell ?_ (by first | (simp; done) | (simp; omega) | omega) _) | (refine Below.trans ?_ (Below.mono (by assumption) (by first | (simp; done) | (simp; omega) | omega)))))⟩
theorem walk_FnExactDirectionOf (a0 a1 : Int) (w : World) (w0 : (Lit.int .i64 a0).wf = true) (w1 : (Lit.int .i64 a1).wf = true) (hS : SinesIn w) :
    Calls Tryd.prog 6 #[.int .i64 a0, .int .i64 a1] w fun e w' => e = .returned (.bool true) ∧ Below w.heap.size w w' := by
  obtain ⟨h1, h2⟩ := bd64 w0
  clear w0 w1
  go_enter Tryd.func6, Tryd.ntmps6
  go_wp2_with fail
  (with_reducible refine (sDirection _ _ _ (by omega) (by omega)).mono ?_)
  rintro e W1 ⟨rfl, hb1⟩
  have hs1 := hb1.size
  (try simp at hs1)
  obtain ⟨hc1, hf1⟩ := bcell hb1
  (try have hz0_1 : w.heap.size < W1.heap.size := by omega)
  (try have hy0_1 : w.heap.size + 1 < W1.heap.size := by omega)
  have hS1 : SinesIn W1 := by first | exact hS.below hb1 | exact (hS.alloc _).below hb1 | exact ((hS.alloc _).alloc _).below hb1
  go_wp2_with fail
  (with_reducible refine (iDirection _ _ _ (by omega) (by omega) (by first | exact hS1 | exact ((hS1.alloc _)) | exact ((hS1.alloc _).alloc _))).mono ?_)
  rintro e W2 ⟨rfl, hb2⟩
  have hs2 := hb2.size
  (try simp at hs2)
  obtain ⟨hc2, hf2⟩ := bcell hb2
  (try have hz0_2 : w.heap.size < W2.heap.size := by omega)
  (try have hy0_2 : w.heap.size + 1 < W2.heap.size := by omega)
  (try have hz1_2 : W1.heap.size < W2.heap.size := by omega)
  (try have hy1_2 : W1.heap.size + 1 < W2.heap.size := by omega)
  go_wp2_with fail
  (with_reducible refine (lEqVector _ _ _ _).mono ?_)
  rintro e W3 ⟨rfl, hb3⟩
  have hs3 := hb3.size
  (try simp at hs3)
  obtain ⟨hc3, hf3⟩ := bcell hb3
  (try have hz0_3 : w.heap.size < W3.heap.size := by omega)
  (try have hy0_3 : w.heap.size + 1 < W3.heap.size := by omega)
  (try have hz1_3 : W1.heap.size < W3.heap.size := by omega)
  (try have hy1_3 : W1.heap.size + 1 < W3.heap.size := by omega)
  (try have hz2_3 : W2.heap.size < W3.heap.size := by omega)
  (try have hy2_3 : W2.heap.size + 1 < W3.heap.size := by omega)
  go_wp2
  go_ret
  exact ⟨rfl, by (repeat (first | exact Below.refl _ _ | assumption | (refine Below.drewN ?_ _) | (refine Below.drew ?_) | (refine Below.alloc ?_ (by first | (simp; done) | (simp; omega) | omega) _) | (refine Below.setCell ?_ (by first | (simp; done) | (simp; omega) | omega) _) | (refine Below.trans ?_ (Below.mono (by assumption) (by first | (simp; done) | (simp; omega) | omega)))))⟩
end Go.Proofs.YtgeipijifcebmaaDoor
