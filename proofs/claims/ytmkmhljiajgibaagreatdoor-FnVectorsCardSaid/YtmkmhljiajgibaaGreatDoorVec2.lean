/-
  Contracts of lengths, of vectors of the length 1, and of directions between two.
-/
import Derived.Test.YtmkmhljiajgibaaGreatDoorVec
import Derived.Test.YtmkmhljiajgibaaGreatDoorRoot
import Derived.Deep.DeepCutAuto
namespace Go.Proofs.YtmkmhljiajgibaaGreatDoor
set_option linter.unusedVariables false
set_option linter.unusedSimpArgs false
open Go.RowKit
attribute [local go_sem ↓] Go.wp_at_zero Go.wp_at_succ
attribute [local go_sem] nn_e2 nn_e3 nn_e4 nn_f2 nn_f3 nn_f4 nn_l2 nn_l3 nn_l4 nn_m3 nn_m4 nn_k4

noncomputable def lenF (x y z : Int) : Int := rootF (x * x + y * y + z * z)
theorem sq8 {a : Int} (h1 : -8000000 ≤ a) (h2 : a ≤ 8000000) : 0 ≤ a * a ∧ a * a ≤ 64000000000000 := by
  have h := mul_bd2 h1 h2 h1 h2 (by omega) (by omega)
  refine ⟨?_, by omega⟩
  by_cases g : 0 ≤ a
  · exact Int.mul_nonneg g g
  · have := Int.mul_nonneg (show 0 ≤ -a by omega) (show 0 ≤ -a by omega)
    rwa [Int.neg_mul_neg] at this
theorem lenF_bd {x y z : Int} (x1 : -8000000 ≤ x) (x2 : x ≤ 8000000) (y1 : -8000000 ≤ y) (y2 : y ≤ 8000000) (z1 : -8000000 ≤ z) (z2 : z ≤ 8000000) : 0 ≤ lenF x y z ∧ lenF x y z ≤ 3037000499 := by
  have a := sq8 x1 x2
  have b := sq8 y1 y2
  have c := sq8 z1 z2
  exact rootF_bd _ (by omega)
theorem iLength (x y z : Int) (w : World) (x1 : -8000000 ≤ x) (x2 : x ≤ 8000000) (y1 : -8000000 ≤ y) (y2 : y ≤ 8000000) (z1 : -8000000 ≤ z) (z2 : z ≤ 8000000) :
    Calls Tryz.prog 24 #[.agg #[.int .i64 x, .int .i64 y, .int .i64 z]] w fun e w' => e = .returned (.int .i64 (lenF x y z)) ∧ Below w.heap.size w w' := by
  unfold lenF
  have a := sq8 x1 x2
  have b := sq8 y1 y2
  have c := sq8 z1 z2
  go_enter Tryz.func24, Tryz.ntmps24
  go_wp2_with (go_at_call 23; (with_reducible refine (iRootOf _ _ (by omega) (by omega)).mono ?_); rintro e w' ⟨rfl, rfl⟩)
  go_ret
  exact ⟨rfl, by (repeat (first | exact Below.refl _ _ | assumption | (refine Below.drewN ?_ _) | (refine Below.drew ?_) | (refine Below.alloc ?_ (by first | (simp; done) | (simp; omega) | omega) _) | (refine Below.setCell ?_ (by first | (simp; done) | (simp; omega) | omega) _) | (refine Below.trans ?_ (Below.mono (by assumption) (by first | (simp; done) | (simp; omega) | omega)))))⟩
noncomputable def leA (x y z : Int) : Int := if okV x y z then lenF x y z else 0
def leC (x y z : Int) : Int := if okV x y z then 0 else 1
theorem iLengthOf (x y z : Int) (w : World) :
    Calls Tryz.prog 8 #[.agg #[.int .i64 x, .int .i64 y, .int .i64 z]] w fun e w' => e = .returned (.tuple #[.int .i64 (leA x y z), .int .i64 (leC x y z)]) ∧ Below w.heap.size w w' := by
  unfold leA leC
  cases h : okV x y z
  · go_enter Tryz.func8, Tryz.ntmps8
    go_wp2_with (go_at_call 21; (with_reducible refine (iValidVector _ _ _ _).mono ?_); rintro e w' ⟨rfl, hb⟩; have hs := hb.size; (try simp at hs); (try have hz : w.heap.size < w'.heap.size := by omega); (try have hy : w.heap.size < w'.heap.size + 1 := by omega); (try have hyy : w.heap.size < w'.heap.size + 1 + 1 := by omega); (try have hz1 : w.heap.size + 1 < w'.heap.size := by omega); (try have hn : ¬ w'.heap.size = w.heap.size := by omega); (try have hn1 : ¬ w'.heap.size = w.heap.size + 1 := by omega); (try have hz2 : w.heap.size + 1 + 1 < w'.heap.size := by omega); (try have hq := Nat.lt_of_lt_of_le (by assumption) hs); (try have hq := Nat.lt_of_succ_le hs); obtain ⟨hc, hf⟩ := bcell hb; (try simp only [World.size_drew, World.cell?_drew, World.frozen?_drew, World.heap_drewN, World.cell?_drewN, World.frozen?_drewN] at hc hf))
    go_ret2
    exact ⟨rfl, by (repeat (first | exact Below.refl _ _ | assumption | (refine Below.drewN ?_ _) | (refine Below.drew ?_) | (refine Below.alloc ?_ (by first | (simp; done) | (simp; omega) | omega) _) | (refine Below.setCell ?_ (by first | (simp; done) | (simp; omega) | omega) _) | (refine Below.trans ?_ (Below.mono (by assumption) (by first | (simp; done) | (simp; omega) | omega)))))⟩
  · obtain ⟨⟨x1, x2⟩, ⟨y1, y2⟩, z1, z2⟩ := okV_t h
    go_enter Tryz.func8, Tryz.ntmps8
    go_wp2_with (first | (go_at_call 21; (with_reducible refine (iValidVector _ _ _ _).mono ?_); rintro e w' ⟨rfl, hb⟩; have hs := hb.size; (try simp at hs); (try have hz : w.heap.size < w'.heap.size := by omega); (try have hy : w.heap.size < w'.heap.size + 1 := by omega); (try have hyy : w.heap.size < w'.heap.size + 1 + 1 := by omega); (try have hz1 : w.heap.size + 1 < w'.heap.size := by omega); (try have hn : ¬ w'.heap.size = w.heap.size := by omega); (try have hn1 : ¬ w'.heap.size = w.heap.size + 1 := by omega); (try have hz2 : w.heap.size + 1 + 1 < w'.heap.size := by omega); (try have hq := Nat.lt_of_lt_of_le (by assumption) hs); (try have hq := Nat.lt_of_succ_le hs); obtain ⟨hc, hf⟩ := bcell hb; (try simp only [World.size_drew, World.cell?_drew, World.frozen?_drew, World.heap_drewN, World.cell?_drewN, World.frozen?_drewN] at hc hf)) | (go_at_call 24; (with_reducible refine (iLength _ _ _ _ (by omega) (by omega) (by omega) (by omega) (by omega) (by omega)).mono ?_); rintro e w' ⟨rfl, hb⟩; have hs := hb.size; (try simp at hs); (try have hz : w.heap.size < w'.heap.size := by omega); (try have hy : w.heap.size < w'.heap.size + 1 := by omega); (try have hyy : w.heap.size < w'.heap.size + 1 + 1 := by omega); (try have hz1 : w.heap.size + 1 < w'.heap.size := by omega); (try have hn : ¬ w'.heap.size = w.heap.size := by omega); (try have hn1 : ¬ w'.heap.size = w.heap.size + 1 := by omega); (try have hz2 : w.heap.size + 1 + 1 < w'.heap.size := by omega); (try have hq := Nat.lt_of_lt_of_le (by assumption) hs); (try have hq := Nat.lt_of_succ_le hs); obtain ⟨hc, hf⟩ := bcell hb; (try simp only [World.size_drew, World.cell?_drew, World.frozen?_drew, World.heap_drewN, World.cell?_drewN, World.frozen?_drewN] at hc hf)))
    go_ret2
    exact ⟨rfl, by (repeat (first | exact Below.refl _ _ | assumption | (refine Below.drewN ?_ _) | (refine Below.drew ?_) | (refine Below.alloc ?_ (by first | (simp; done) | (simp; omega) | omega) _) | (refine Below.setCell ?_ (by first | (simp; done) | (simp; omega) | omega) _) | (refine Below.trans ?_ (Below.mono (by assumption) (by first | (simp; done) | (simp; omega) | omega)))))⟩
/-- A vector of the length 1. -/
noncomputable def nrm (v x y z : Int) : Int := divR (v * 1000000) (lenF x y z)
noncomputable def nvC (x y z : Int) : Int := if okV x y z then (if lenF x y z == 0 then 6 else chC (nrm x x y z) (nrm y x y z) (nrm z x y z)) else 1
noncomputable def nvV (v x y z : Int) : Int := if okV x y z && !(lenF x y z == 0) then chV (nrm v x y z) (nrm x x y z) (nrm y x y z) (nrm z x y z) else 0
noncomputable def snV (v x y z : Int) : Int := if lenF x y z == 0 then 0 else nrm v x y z
noncomputable def snB (x y z : Int) : Bool := !(lenF x y z == 0)
end Go.Proofs.YtmkmhljiajgibaaGreatDoor
