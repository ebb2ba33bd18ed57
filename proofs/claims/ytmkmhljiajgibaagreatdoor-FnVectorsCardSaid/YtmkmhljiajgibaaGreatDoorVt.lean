/-
  Contracts of vectors as texts.
-/
import Derived.Test.YtmkmhljiajgibaaGreatDoorLt
import Derived.Test.YtmkmhljiajgibaaGreatDoorVec
namespace Go.Proofs.YtmkmhljiajgibaaGreatDoor
set_option linter.unusedVariables false
set_option linter.unusedSimpArgs false
open Go.RowKit

def vtT (x y z : Int) : List UInt8 := if okV x y z then ltL [x, y, z] else []
theorem vtT_no {x y z : Int} (h : okV x y z = false) : vtT x y z = [] := by unfold vtT; rw [h]; rfl
theorem vtT_yes {x y z : Int} (h : okV x y z = true) : vtT x y z = ltL [x, y, z] := by unfold vtT; rw [h]; rfl
theorem row3 (x y z : Int) (t : TypeId) (w : World) : RowAt (w.alloc (.cells #[.int .i64 x, .int .i64 y, .int .i64 z] t)) (some ⟨w.heap.size, 0, none⟩) 3 [x, y, z] := by
  refine ⟨rfl, .inr ⟨w.heap.size, 0, rfl, fun i hi => ?_⟩⟩
  rw [World.cell?_alloc_new]
  match i, hi with
  | 0, _ => rfl
  | 1, _ => rfl
  | 2, _ => rfl
theorem row3At (x y z : Int) (t : TypeId) (w : World) (H : Nat) (hH : w.heap.size = H) : RowAt (w.alloc (.cells #[.int .i64 x, .int .i64 y, .int .i64 z] t)) (some ⟨H, 0, none⟩) 3 [x, y, z] := by subst hH; exact row3 x y z t w
theorem fit3 {x y z : Int} (h : okV x y z = true) : Fit [x, y, z] 3 := by
  obtain ⟨⟨x1, x2⟩, ⟨y1, y2⟩, z1, z2⟩ := okV_t h
  intro j hj
  match j, hj with
  | 0, _ => exact ⟨by show -1000000000000 ≤ x; omega, by show x ≤ 1000000000000; omega⟩
  | 1, _ => exact ⟨by show -1000000000000 ≤ y; omega, by show y ≤ 1000000000000; omega⟩
  | 2, _ => exact ⟨by show -1000000000000 ≤ z; omega, by show z ≤ 1000000000000; omega⟩
theorem ltT3 {x y z : Int} (h : okV x y z = true) : ltT [x, y, z] = ltL [x, y, z] := ltT_yes (ltOk_mk (by simp) (fit3 h))
theorem iVectorText (x y z : Int) (w : World) (hT : TabIn w) :
    Calls Tryz.prog 16 #[.agg #[.int .i64 x, .int .i64 y, .int .i64 z]] w fun e w' => e = .returned (.string (tx (vtT x y z))) ∧ Below w.heap.size w w' := by
  have HT := Lib.hid hT
  clear hT
  cases h : okV x y z
  · rw [vtT_no h]
    go_enter Tryz.func16, Tryz.ntmps16
    go_wp2_with (go_at_call 21; (with_reducible refine (iValidVector _ _ _ _).mono ?_); rintro e w' ⟨rfl, hb⟩; have hs := hb.size; (try simp at hs); (try have hz : w.heap.size < w'.heap.size := by omega); (try have hy : w.heap.size < w'.heap.size + 1 := by omega); (try have hyy : w.heap.size < w'.heap.size + 1 + 1 := by omega); (try have hz1 : w.heap.size + 1 < w'.heap.size := by omega); (try have hn : ¬ w'.heap.size = w.heap.size := by omega); (try have hn1 : ¬ w'.heap.size = w.heap.size + 1 := by omega); (try have hz2 : w.heap.size + 1 + 1 < w'.heap.size := by omega); (try have hq := Nat.lt_of_lt_of_le (by assumption) hs); (try have hq := Nat.lt_of_succ_le hs); obtain ⟨hc, hf⟩ := bcell hb; (try simp only [World.size_drew, World.cell?_drew, World.frozen?_drew, World.heap_drewN, World.cell?_drewN, World.frozen?_drewN] at hc hf))
    go_ret
    exact ⟨rfl, by (repeat (first | exact Below.refl _ _ | assumption | (refine Below.drewN ?_ _) | (refine Below.drew ?_) | (refine Below.alloc ?_ (by first | (simp; done) | (simp; omega) | omega) _) | (refine Below.setCell ?_ (by first | (simp; done) | (simp; omega) | omega) _) | (refine Below.trans ?_ (Below.mono (by assumption) (by first | (simp; done) | (simp; omega) | omega)))))⟩
  · rw [vtT_yes h, ← ltT3 h]
    go_enter Tryz.func16, Tryz.ntmps16
    go_wp2_with fail
    (with_reducible refine (iValidVector _ _ _ _).mono ?_)
    rintro e W1 ⟨rfl, hb1⟩
    have hs1 := hb1.size
    (try simp at hs1)
    obtain ⟨hc1, hf1⟩ := bcell hb1
    (try have hz0_1 : w.heap.size < W1.heap.size := by omega)
    (try have hy0_1 : w.heap.size + 1 < W1.heap.size := by omega)
    have HB : Hid (Below w.heap.size w W1) := by show Below _ _ _; (repeat (first | exact Below.refl _ _ | assumption | (refine Below.drewN ?_ _) | (refine Below.drew ?_) | (refine Below.alloc ?_ (by first | (simp; done) | (simp; omega) | omega) _) | (refine Below.setCell ?_ (by first | (simp; done) | (simp; omega) | omega) _) | (refine Below.trans ?_ (Below.mono (by assumption) (by first | (simp; done) | (simp; omega) | omega)))))
    go_wp2_with fail
    (with_reducible refine (iListText _ 3 3 _ _ (row3 x y z _ W1) ((HT.out.below HB.out).alloc _)).mono ?_)
    rintro e w2 ⟨rfl, hb2⟩
    have hs2 := hb2.size
    go_wp2
    go_ret
    exact ⟨rfl, by (repeat (first | exact Below.refl _ _ | assumption | (refine Below.drewN ?_ _) | (refine Below.drew ?_) | (refine Below.alloc ?_ (by first | (simp; done) | (simp; omega) | omega) _) | (refine Below.setCell ?_ (by first | (simp; done) | (simp; omega) | omega) _) | (refine Below.trans ?_ (Below.mono (by assumption) (by first | (simp; done) | (simp; omega) | omega)))))⟩
end Go.Proofs.YtmkmhljiajgibaaGreatDoor
