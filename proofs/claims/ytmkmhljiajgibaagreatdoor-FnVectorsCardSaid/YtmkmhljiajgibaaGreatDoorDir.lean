/-
  Contracts of the direction of two angles.
-/
import Derived.Test.YtmkmhljiajgibaaGreatDoorSin
import Derived.Test.YtmkmhljiajgibaaGreatDoorVec
namespace Go.Proofs.YtmkmhljiajgibaaGreatDoor
set_option linter.unusedVariables false
set_option linter.unusedSimpArgs false
open Go.RowKit

theorem mul_ok1 {a b : Int} (h1 : -1000000 ≤ a) (h2 : a ≤ 1000000) (h3 : -1000000 ≤ b) (h4 : b ≤ 1000000) : -1000000000000 ≤ a * b ∧ a * b ≤ 1000000000000 := by
  have := mul_bd2 h1 h2 h3 h4 (by omega) (by omega)
  omega
def diX (l b : Int) : Int := divR (cosI b * cosI l) 1000000
def diY (l b : Int) : Int := divR (cosI b * sinI l) 1000000
def diZ (b : Int) : Int := sinI b
theorem iDirV (l b : Int) (w : World) (h1 : -9223372036854775808 ≤ l) (h2 : l ≤ 9223372036854775807) (h3 : -9223372036854775808 ≤ b) (h4 : b ≤ 9223372036854775807) (hS : SinesIn w) :
    Calls Tryz.prog 20 #[.int .i64 l, .int .i64 b] w fun e w' => e = .returned (.agg #[.int .i64 (diX l b), .int .i64 (diY l b), .int .i64 (diZ b)]) ∧ Below w.heap.size w w' := by
  unfold diX diY diZ
  have c1 := cosI_bd b
  have c2 := cosI_bd l
  have c3 := sinI_bd l
  have m1 := mul_ok1 c1.1 c1.2 c2.1 c2.2
  have m2 := mul_ok1 c1.1 c1.2 c3.1 c3.2
  have hS1 := fun o => SinesIn.alloc hS o
  go_enter Tryz.func20, Tryz.ntmps20
  go_wp2_with (first | (go_at_call 34; (with_reducible refine (iCosineOf _ _ (by omega) (by omega) (by first | exact hS1 _ | exact SinesIn.drewN (hS1 _) _)).mono ?_); rintro e w' ⟨rfl, n, rfl⟩) | (go_at_call 36; (with_reducible refine (iSineOf _ _ (by omega) (by omega) (by first | exact hS1 _ | exact SinesIn.drewN (hS1 _) _)).mono ?_); rintro e w' ⟨rfl, n, rfl⟩) | (go_at_call 35; (with_reducible refine (iNearest _ _ _ (by omega) (by omega) (by omega) (by omega) (by omega)).mono ?_); rintro e w' ⟨rfl, n, rfl⟩))
  exact bodyPost_ret (v := .agg #[.int .i64 (divR (cosI b * cosI l) 1000000), .int .i64 (divR (cosI b * sinI l) 1000000), .int .i64 (sinI b)]) (by simp [results, Tryz.results20, go_sem, *]) rfl ⟨rfl, by (repeat (first | exact Below.refl _ _ | assumption | (refine Below.drewN ?_ _) | (refine Below.drew ?_) | (refine Below.alloc ?_ (by first | (simp; done) | (simp; omega) | omega) _) | (refine Below.setCell ?_ (by first | (simp; done) | (simp; omega) | omega) _) | (refine Below.trans ?_ (Below.mono (by assumption) (by first | (simp; done) | (simp; omega) | omega)))))⟩
theorem sDirV (l b : Int) (w : World) (h1 : -9223372036854775808 ≤ l) (h2 : l ≤ 9223372036854775807) (h3 : -9223372036854775808 ≤ b) (h4 : b ≤ 9223372036854775807) :
    Calls Tryz.prog 61 #[.int .i64 l, .int .i64 b] w fun e w' => e = .returned (.agg #[.int .i64 (diX l b), .int .i64 (diY l b), .int .i64 (diZ b)]) ∧ Below w.heap.size w w' := by
  unfold diX diY diZ
  have c1 := cosI_bd b
  have c2 := cosI_bd l
  have c3 := sinI_bd l
  have m1 := mul_ok1 c1.1 c1.2 c2.1 c2.2
  have m2 := mul_ok1 c1.1 c1.2 c3.1 c3.2
  go_enter Tryz.func61, Tryz.ntmps61
  go_wp2_with (first | (go_at_call 71; (with_reducible refine (sCosine _ _ (by omega) (by omega)).mono ?_); rintro e w' ⟨rfl, hb⟩; have hs := hb.size; (try simp at hs); (try have hz : w.heap.size < w'.heap.size := by omega); (try have hy : w.heap.size < w'.heap.size + 1 := by omega); (try have hyy : w.heap.size < w'.heap.size + 1 + 1 := by omega); (try have hz1 : w.heap.size + 1 < w'.heap.size := by omega); (try have hn : ¬ w'.heap.size = w.heap.size := by omega); (try have hn1 : ¬ w'.heap.size = w.heap.size + 1 := by omega); (try have hz2 : w.heap.size + 1 + 1 < w'.heap.size := by omega); (try have hq := Nat.lt_of_lt_of_le (by assumption) hs); (try have hq := Nat.lt_of_succ_le hs); obtain ⟨hc, hf⟩ := bcell hb; (try simp only [World.size_drew, World.cell?_drew, World.frozen?_drew, World.heap_drewN, World.cell?_drewN, World.frozen?_drewN] at hc hf)) | (go_at_call 73; (with_reducible refine (sSine _ _ (by omega) (by omega)).mono ?_); rintro e w' ⟨rfl, hb⟩; have hs := hb.size; (try simp at hs); (try have hz : w.heap.size < w'.heap.size := by omega); (try have hy : w.heap.size < w'.heap.size + 1 := by omega); (try have hyy : w.heap.size < w'.heap.size + 1 + 1 := by omega); (try have hz1 : w.heap.size + 1 < w'.heap.size := by omega); (try have hn : ¬ w'.heap.size = w.heap.size := by omega); (try have hn1 : ¬ w'.heap.size = w.heap.size + 1 := by omega); (try have hz2 : w.heap.size + 1 + 1 < w'.heap.size := by omega); (try have hq := Nat.lt_of_lt_of_le (by assumption) hs); (try have hq := Nat.lt_of_succ_le hs); obtain ⟨hc, hf⟩ := bcell hb; (try simp only [World.size_drew, World.cell?_drew, World.frozen?_drew, World.heap_drewN, World.cell?_drewN, World.frozen?_drewN] at hc hf)) | (go_at_call 72; (with_reducible refine (sDiv _ _ _ (by omega) (by omega) (by omega) (by omega) (by omega)).mono ?_); rintro e w' ⟨rfl, rfl⟩))
  exact bodyPost_ret (v := .agg #[.int .i64 (divR (cosI b * cosI l) 1000000), .int .i64 (divR (cosI b * sinI l) 1000000), .int .i64 (sinI b)]) (by simp [results, Tryz.results61, go_sem, *]) rfl ⟨rfl, by (repeat (first | exact Below.refl _ _ | assumption | (refine Below.drewN ?_ _) | (refine Below.drew ?_) | (refine Below.alloc ?_ (by first | (simp; done) | (simp; omega) | omega) _) | (refine Below.setCell ?_ (by first | (simp; done) | (simp; omega) | omega) _) | (refine Below.trans ?_ (Below.mono (by assumption) (by first | (simp; done) | (simp; omega) | omega)))))⟩
def doX (l b : Int) : Int := if inB b (-90000) 90000 then diX l b else 0
def doY (l b : Int) : Int := if inB b (-90000) 90000 then diY l b else 0
def doZ (l b : Int) : Int := if inB b (-90000) 90000 then diZ b else 0
def doC (b : Int) : Int := if inB b (-90000) 90000 then 0 else 2
theorem iDirection (l b : Int) (w : World) (h1 : -9223372036854775808 ≤ l) (h2 : l ≤ 9223372036854775807) (hS : SinesIn w) :
    Calls Tryz.prog 6 #[.int .i64 l, .int .i64 b] w fun e w' => e = .returned (.tuple #[.agg #[.int .i64 (doX l b), .int .i64 (doY l b), .int .i64 (doZ l b)], .int .i64 (doC b)]) ∧ Below w.heap.size w w' := by
  unfold doX doY doZ doC
  cases h : inB b (-90000) 90000
  · go_enter Tryz.func6, Tryz.ntmps6
    go_wp2_with (go_at_call 19; (with_reducible refine (iWithin _ _ _ _).mono ?_); rintro e w' ⟨rfl, rfl⟩)
    exact bodyPost_ret (v := .tuple #[.agg #[.int .i64 0, .int .i64 0, .int .i64 0], .int .i64 2]) (by simp [results, Tryz.results6, go_sem, *]) rfl ⟨rfl, by (repeat (first | exact Below.refl _ _ | assumption | (refine Below.drewN ?_ _) | (refine Below.drew ?_) | (refine Below.alloc ?_ (by first | (simp; done) | (simp; omega) | omega) _) | (refine Below.setCell ?_ (by first | (simp; done) | (simp; omega) | omega) _) | (refine Below.trans ?_ (Below.mono (by assumption) (by first | (simp; done) | (simp; omega) | omega)))))⟩
  · have hb0 := inB_t h
    have hS1 := fun o => SinesIn.alloc hS o
    go_enter Tryz.func6, Tryz.ntmps6
    go_wp2_with (first | (go_at_call 19; (with_reducible refine (iWithin _ _ _ _).mono ?_); rintro e w' ⟨rfl, rfl⟩) | (go_at_call 20; (with_reducible refine (iDirV _ _ _ (by omega) (by omega) (by omega) (by omega) (hS1 _)).mono ?_); rintro e w' ⟨rfl, hb⟩; have hs := hb.size; (try simp at hs); (try have hz : w.heap.size < w'.heap.size := by omega); (try have hy : w.heap.size < w'.heap.size + 1 := by omega); (try have hyy : w.heap.size < w'.heap.size + 1 + 1 := by omega); (try have hz1 : w.heap.size + 1 < w'.heap.size := by omega); (try have hn : ¬ w'.heap.size = w.heap.size := by omega); (try have hn1 : ¬ w'.heap.size = w.heap.size + 1 := by omega); (try have hz2 : w.heap.size + 1 + 1 < w'.heap.size := by omega); (try have hq := Nat.lt_of_lt_of_le (by assumption) hs); (try have hq := Nat.lt_of_succ_le hs); obtain ⟨hc, hf⟩ := bcell hb; (try simp only [World.size_drew, World.cell?_drew, World.frozen?_drew, World.heap_drewN, World.cell?_drewN, World.frozen?_drewN] at hc hf)))
    exact bodyPost_ret (v := .tuple #[.agg #[.int .i64 (diX l b), .int .i64 (diY l b), .int .i64 (diZ b)], .int .i64 0]) (by simp [results, Tryz.results6, go_sem, *]) rfl ⟨rfl, by (repeat (first | exact Below.refl _ _ | assumption | (refine Below.drewN ?_ _) | (refine Below.drew ?_) | (refine Below.alloc ?_ (by first | (simp; done) | (simp; omega) | omega) _) | (refine Below.setCell ?_ (by first | (simp; done) | (simp; omega) | omega) _) | (refine Below.trans ?_ (Below.mono (by assumption) (by first | (simp; done) | (simp; omega) | omega)))))⟩
end Go.Proofs.YtmkmhljiajgibaaGreatDoor
