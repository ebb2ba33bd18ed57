/-
  Contracts of vectors as texts.
-/
import Derived.Test.YtmkmhljiajgibaaDoorLt
import Derived.Test.YtmkmhljiajgibaaDoorVec
namespace Go.Proofs.YtmkmhljiajgibaaDoor
set_option linter.unusedVariables false
set_option linter.unusedSimpArgs false
open Go.RowKit

def vtT (x y z : Int) : List UInt8 := if okV x y z then ltL [x, y, z] else []
theorem vtT_no {x y z : Int} (h : okV x y z = false) : vtT x y z = [] := by unfold vtT; rw [h]; rfl
theorem vtT_yes {x y z : Int} (h : okV x y z = true) : vtT x y z = ltL [x, y, z] := by unfold vtT; rw [h]; rfl
theorem row3 (x y z : Int) (t : TypeId) (w : World) : RowAt (w.alloc (.cells #[.int .i64 x, .int .i64 y, .int .i64 z] t)) (some ⟨w.heap.size, 0, none⟩) 3 [x, y, z] := by
  refine ⟨rfl, .inr ⟨w.heap.size, 0, rfl, fun i hi => ?_⟩⟩
  rw [World.cell?_alloc_new]
  match i, hi with
  | 0, _ => rfl
  | 1, _ => rfl
  | 2, _ => rfl
theorem row3At (x y z : Int) (t : TypeId) (w : World) (H : Nat) (hH : w.heap.size = H) : RowAt (w.alloc (.cells #[.int .i64 x, .int .i64 y, .int .i64 z] t)) (some ⟨H, 0, none⟩) 3 [x, y, z] := by subst hH; exact row3 x y z t w
theorem fit3 {x y z : Int} (h : okV x y z = true) : Fit [x, y, z] 3 := by
  obtain ⟨⟨x1, x2⟩, ⟨y1, y2⟩, z1, z2⟩ := okV_t h
  intro j hj
  match j, hj with
  | 0, _ => exact ⟨by show -1000000000000 ≤ x; omega, by show x ≤ 1000000000000; omega⟩
  | 1, _ => exact ⟨by show -1000000000000 ≤ y; omega, by show y ≤ 1000000000000; omega⟩
  | 2, _ => exact ⟨by show -1000000000000 ≤ z; omega, by show z ≤ 1000000000000; omega⟩
theorem ltT3 {x y z : Int} (h : okV x y z = true) : ltT [x, y, z] = ltL [x, y, z] := ltT_yes (ltOk_mk (by simp) (fit3 h))
end Go.Proofs.YtmkmhljiajgibaaDoor
