/-
  Vectors: plain integers, no program in sight.
-/
import Derived.Test.YtmkmhljiajgibaaGreatDoorMnum
namespace Go.Proofs.YtmkmhljiajgibaaGreatDoor
set_option linter.unusedVariables false
set_option linter.unusedSimpArgs false
/-- A valid vector. -/
def okV (x y z : Int) : Bool := inB x (-2000000) 2000000 && inB y (-2000000) 2000000 && inB z (-2000000) 2000000
theorem okV_t {x y z : Int} (h : okV x y z = true) : (-2000000 ≤ x ∧ x ≤ 2000000) ∧ (-2000000 ≤ y ∧ y ≤ 2000000) ∧ (-2000000 ≤ z ∧ z ≤ 2000000) := by
  unfold okV at h
  simp only [Bool.and_eq_true] at h
  exact ⟨inB_t h.1.1, inB_t h.1.2, inB_t h.2⟩
theorem okV_mk {x y z : Int} (h : (-2000000 ≤ x ∧ x ≤ 2000000) ∧ (-2000000 ≤ y ∧ y ≤ 2000000) ∧ (-2000000 ≤ z ∧ z ≤ 2000000)) : okV x y z = true := by
  unfold okV; rw [inB_mk h.1, inB_mk h.2.1, inB_mk h.2.2]; rfl
/-- Products of two vectors. -/
def dotV (a b c x y z : Int) : Int := divR (a * x + b * y + c * z) 1000000
def crX (a b c x y z : Int) : Int := divR (b * z - c * y) 1000000
def crY (a b c x y z : Int) : Int := divR (c * x - a * z) 1000000
def crZ (a b c x y z : Int) : Int := divR (a * y - b * x) 1000000
/-- A vector, or an error where it is not valid. -/
def chV (v x y z : Int) : Int := if okV x y z then v else 0
def chC (x y z : Int) : Int := if okV x y z then 0 else 6
theorem mul_okV {a b : Int} (h1 : -2000000 ≤ a) (h2 : a ≤ 2000000) (h3 : -2000000 ≤ b) (h4 : b ≤ 2000000) : -4000000000000 ≤ a * b ∧ a * b ≤ 4000000000000 := by
  have := mul_bd2 h1 h2 h3 h4 (by omega) (by omega)
  omega
end Go.Proofs.YtmkmhljiajgibaaGreatDoor
