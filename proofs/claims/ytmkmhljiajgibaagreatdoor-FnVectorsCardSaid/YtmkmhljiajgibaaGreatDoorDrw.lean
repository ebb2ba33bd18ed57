/-
  Drawn vectors and angles.
-/
import Derived.Test.YtmkmhljiajgibaaGreatDoorSrc
import Derived.Test.YtmkmhljiajgibaaGreatDoorHelp
import Derived.Test.YtmkmhljiajgibaaGreatDoorDir
import Derived.Deep.RegionHeld3
namespace Go.Proofs.YtmkmhljiajgibaaGreatDoor
set_option linter.unusedVariables false
set_option linter.unusedSimpArgs false
open Go.RowKit
attribute [local go_sem ↓] Go.wp_at_zero Go.wp_at_succ
attribute [local go_sem] nn_e2 nn_e3 nn_e4 nn_f2 nn_f3 nn_f4 nn_l2 nn_l3 nn_l4 nn_m3 nn_m4 nn_k4

/-- A block of three numbers that the call may write. -/
structure Tri (w : World) (g : Nat) (x y z : Int) : Prop where
  c0 : w.cell? ⟨g, 0, none⟩ = some (.int .i64 x)
  c1 : w.cell? ⟨g, 1, none⟩ = some (.int .i64 y)
  c2 : w.cell? ⟨g, 2, none⟩ = some (.int .i64 z)
  f0 : w.frozen? ⟨g, 0, none⟩ = false
  f1 : w.frozen? ⟨g, 1, none⟩ = false
  f2 : w.frozen? ⟨g, 2, none⟩ = false
theorem Tri.lt {w : World} {g : Nat} {x y z : Int} (h : Tri w g x y z) : g < w.heap.size := cell_lt h.c0
theorem Tri.new (w : World) (x y z : Int) (t : TypeId) : Tri (w.alloc (.cells #[.int .i64 x, .int .i64 y, .int .i64 z] t)) w.heap.size x y z :=
  ⟨by rw [World.cell?_alloc_new]; rfl, by rw [World.cell?_alloc_new]; rfl, by rw [World.cell?_alloc_new]; rfl, World.frozen?_alloc_at _ _ _ _ rfl, World.frozen?_alloc_at _ _ _ _ rfl, World.frozen?_alloc_at _ _ _ _ rfl⟩
theorem Tri.keep {w w' : World} {g : Nat} {x y z : Int} (h : Tri w g x y z) (hb : w'.heap[g]? = w.heap[g]?) : Tri w' g x y z :=
  ⟨(World.cell?_of_block (w := w) hb).trans h.c0, (World.cell?_of_block (w := w) hb).trans h.c1, (World.cell?_of_block (w := w) hb).trans h.c2, (World.frozen?_of_block (w := w) hb).trans h.f0, (World.frozen?_of_block (w := w) hb).trans h.f1, (World.frozen?_of_block (w := w) hb).trans h.f2⟩
theorem Tri.but {w w' : World} {g q : Nat} {x y z : Int} (h : Tri w g x y z) (hb : But q w w') (hq : g ≠ q) : Tri w' g x y z := h.keep (hb.block g h.lt hq)
theorem Tri.below {w w' : World} {g : Nat} {x y z : Int} (h : Tri w g x y z) (hb : Below w.heap.size w w') : Tri w' g x y z := h.keep (hb.block g h.lt)
theorem Tri.alloc {w : World} {g : Nat} {x y z : Int} (h : Tri w g x y z) (o : Obj) : Tri (w.alloc o) g x y z := h.below ((Below.refl _ _).alloc (Nat.le_refl _) o)
theorem Tri.drewN {w : World} {g : Nat} {x y z : Int} (h : Tri w g x y z) (n : Nat) : Tri (w.drewN n) g x y z := h.keep rfl
theorem Tri.other {w : World} {g b : Nat} {x y z : Int} (h : Tri w g x y z) (hb : g ≠ b) (o : Nat) (v : Value) : Tri (w.setCell ⟨b, o, none⟩ v) g x y z := h.keep (Below.heap_setCell _ _ _ _ hb)
theorem But.setO {q : Nat} {a w : World} (h : But q a w) {g : Nat} (hg : a.heap.size ≤ g) (o : Nat) (v : Value) : But q a (w.setCell ⟨g, o, none⟩ v) :=
  ⟨h.os, h.tape, h.output, by simpa [World.setCell] using h.size, fun k hk hq => (Below.heap_setCell _ _ _ _ (by show k ≠ g; omega)).trans (h.block k hk hq)⟩
def VB (x y z : Int) : Prop := (-3000000 ≤ x ∧ x ≤ 3000000) ∧ (-3000000 ≤ y ∧ y ≤ 3000000) ∧ (-3000000 ≤ z ∧ z ≤ 3000000)
def VecDrawn (B q m : Nat) (w : World) (e : Ending) (w' : World) : Prop := ∃ x y z : Int, e = .returned (.agg #[.int .i64 x, .int .i64 y, .int .i64 z]) ∧ VB x y z ∧ Src w' B q m ∧ But q w w'
theorem divM1 {a : Int} (h1 : -1000000000000 ≤ a) (h2 : a ≤ 1000000000000) : -1000000 ≤ divR a 1000000 ∧ divR a 1000000 ≤ 1000000 := by
  unfold divR qr
  split <;> simp <;> omega
theorem dir_vb (l b : Int) : VB (diX l b) (diY l b) (diZ b) := by
  have c1 := cosI_bd b
  have c2 := cosI_bd l
  have c3 := sinI_bd l
  have c4 := sinI_bd b
  have m1 := mul_ok1 c1.1 c1.2 c2.1 c2.2
  have m2 := mul_ok1 c1.1 c1.2 c3.1 c3.2
  have d1 := divM1 m1.1 m1.2
  have d2 := divM1 m2.1 m2.2
  unfold VB diX diY diZ
  omega
theorem sAngD (B q m : Nat) (w : World) (S : Src w B q m) (hm : m ≤ 800000) :
    Calls Tryz.prog 60 #[.pointer (some ⟨q, 0, none⟩)] w (Drawn B q (m + 4) w fun v => 0 ≤ v ∧ v < 360000) := by
  go_enter Tryz.func60, Tryz.ntmps60
  go_wp2_with (go_at_call 41; (with_reducible refine (sPick _ _ _ _ _ (by assumption) (by omega) (by omega) (by omega)).mono ?_); rintro e w' ⟨v, rfl, ⟨hv1, hv2⟩, hsrc, hbut⟩)
  all_goals go_ret
  all_goals exact ⟨_, rfl, ⟨by omega, by omega⟩, hsrc.more (by omega), by (repeat (first | exact But.refl _ _ | assumption | (refine But.drewN ?_ _) | (refine But.drew ?_) | (refine But.alloc ?_ _) | (refine But.set ?_ _ _) | (refine But.setO ?_ (by omega) _ _) | (refine But.trans ?_ (by assumption)) | (refine But.trans ?_ (But.of_below (by assumption)))))⟩
set_option maxHeartbeats 2000000 in
theorem sVec (B q m : Nat) (w : World) (S : Src w B q m) (hm : m ≤ 600000) :
    Calls Tryz.prog 49 #[.pointer (some ⟨q, 0, none⟩)] w (VecDrawn B q (m + 10) w) := by
  have hq := S.lt
  have n0 : w.heap.size ≠ q := by omega
  have T0 := Lib.hid (Tri.new w 0 0 0 26)
  go_enter Tryz.func49, Tryz.ntmps49
  go_wp2_with fail
  (with_reducible refine (sPick _ _ _ _ _ (S.alloc _) (by omega) (by omega) (by omega)).mono ?_)
  rintro e w1 ⟨v, rfl, ⟨v1, v2⟩, hs1, hb1⟩
  have T1 := Lib.hid (T0.out.but hb1 n0)
  have hg1 : w.heap.size ≤ w1.heap.size := by have := hb1.size; simp at this; omega
  clear T0
  have hv : v = 0 ∨ v = 1 ∨ 2 ≤ v := by omega
  rcases hv with hv | hv | hv
  · go_wp2_with fail
    (with_reducible refine (sAmongNew _ _ _ [0, 1000000, -1000000, 2000000] _ _ _ _ hs1 (by simp) (by simp) (by omega) (by omega) (by omega)).mono ?_)
    rintro e w2 ⟨x, rfl, hx, hs2, hb2⟩
    have hx2 : -3000000 ≤ x ∧ x ≤ 3000000 := by simp at hx; omega
    have T2 := Lib.hid (T1.out.but hb2 n0)
    clear hx T1
    go_wp2_with fail
    (with_reducible refine (sAmongNew _ _ _ [0, 1000000, -1, 2000000] _ _ _ _ hs2 (by simp) (by simp) (by omega) (by omega) (by omega)).mono ?_)
    rintro e w3 ⟨y, rfl, hy, hs3, hb3⟩
    have hy2 : -3000000 ≤ y ∧ y ≤ 3000000 := by simp at hy; omega
    have T3 := Lib.hid (T2.out.but hb3 n0)
    clear hy T2
    go_wp2_with fail
    (with_reducible refine (sAmongNew _ _ _ [0, 1000000, -2000000] _ _ _ _ hs3 (by simp) (by simp) (by omega) (by omega) (by omega)).mono ?_)
    rintro e w4 ⟨z, rfl, hz, hs4, hb4⟩
    have hz2 : -3000000 ≤ z ∧ z ≤ 3000000 := by simp at hz; omega
    have T4 := T3.out.but hb4 n0
    obtain ⟨k1, k2, k3, k4, k5, k6⟩ := T4
    clear hz T3
    have hbw : But q w w4 := by (repeat (first | exact But.refl _ _ | assumption | (refine But.drewN ?_ _) | (refine But.drew ?_) | (refine But.alloc ?_ _) | (refine But.set ?_ _ _) | (refine But.setO ?_ (by omega) _ _) | (refine But.trans ?_ (by assumption)) | (refine But.trans ?_ (But.of_below (by assumption)))))
    go_wp2
    exact bodyPost_ret (v := .agg #[.int .i64 x, .int .i64 y, .int .i64 z]) (by simp [results, Tryz.results49, go_sem, *]) rfl ⟨x, y, z, rfl, ⟨hx2, hy2, hz2⟩, (((hs4.other (by have := S.bq; omega) n0 _ _).other (by have := S.bq; omega) n0 _ _).other (by have := S.bq; omega) n0 _ _).more (by omega), ((hbw.setO (Nat.le_refl _) _ _).setO (Nat.le_refl _) _ _).setO (Nat.le_refl _) _ _⟩
  · go_wp2_with fail
    (with_reducible refine (sPick _ _ _ _ _ hs1 (by omega) (by omega) (by omega)).mono ?_)
    rintro e w2 ⟨x, rfl, ⟨hx1, hx2⟩, hs2, hb2⟩
    have T2 := Lib.hid (T1.out.but hb2 n0)
    go_wp2_with fail
    (with_reducible refine (sPick _ _ _ _ _ hs2 (by omega) (by omega) (by omega)).mono ?_)
    rintro e w3 ⟨y, rfl, ⟨hy1, hy2⟩, hs3, hb3⟩
    have T3 := Lib.hid (T2.out.but hb3 n0)
    go_wp2_with fail
    (with_reducible refine (sPick _ _ _ _ _ hs3 (by omega) (by omega) (by omega)).mono ?_)
    rintro e w4 ⟨z, rfl, ⟨hz1, hz2⟩, hs4, hb4⟩
    have T4 := T3.out.but hb4 n0
    obtain ⟨k1, k2, k3, k4, k5, k6⟩ := T4
    clear T1 T2 T3
    have hbw : But q w w4 := by (repeat (first | exact But.refl _ _ | assumption | (refine But.drewN ?_ _) | (refine But.drew ?_) | (refine But.alloc ?_ _) | (refine But.set ?_ _ _) | (refine But.setO ?_ (by omega) _ _) | (refine But.trans ?_ (by assumption)) | (refine But.trans ?_ (But.of_below (by assumption)))))
    go_wp2
    exact bodyPost_ret (v := .agg #[.int .i64 (x - 3), .int .i64 (y - 3), .int .i64 (z - 3)]) (by simp [results, Tryz.results49, go_sem, *]) rfl ⟨x - 3, y - 3, z - 3, rfl, ⟨by omega, by omega, by omega⟩, (((hs4.other (by have := S.bq; omega) n0 _ _).other (by have := S.bq; omega) n0 _ _).other (by have := S.bq; omega) n0 _ _).more (by omega), ((hbw.setO (Nat.le_refl _) _ _).setO (Nat.le_refl _) _ _).setO (Nat.le_refl _) _ _⟩
  · go_wp2_with fail
    (with_reducible refine (sAngD _ _ _ _ hs1 (by omega)).mono ?_)
    rintro e w2 ⟨l, rfl, ⟨hx1, hx2⟩, hs2, hb2⟩
    have T2 := Lib.hid (T1.out.but hb2 n0)
    go_wp2_with fail
    (with_reducible refine (sPick _ _ _ _ _ hs2 (by omega) (by omega) (by omega)).mono ?_)
    rintro e w3 ⟨b, rfl, ⟨hy1, hy2⟩, hs3, hb3⟩
    have T3 := Lib.hid (T2.out.but hb3 n0)
    go_wp2_with fail
    (with_reducible refine (sDirV _ _ _ (by omega) (by omega) (by omega) (by omega)).mono ?_)
    rintro e w4 ⟨rfl, hb4⟩
    have T4 := T3.out.below hb4
    have hs4 := hs3.below hb4
    have hvb := Lib.hid (dir_vb l (b - 90000))
    obtain ⟨k1, k2, k3, k4, k5, k6⟩ := T4
    clear T1 T2 T3
    have hbw : But q w w4 := by (repeat (first | exact But.refl _ _ | assumption | (refine But.drewN ?_ _) | (refine But.drew ?_) | (refine But.alloc ?_ _) | (refine But.set ?_ _ _) | (refine But.setO ?_ (by omega) _ _) | (refine But.trans ?_ (by assumption)) | (refine But.trans ?_ (But.of_below (by assumption)))))
    generalize diX l (b - 90000) = x at *
    generalize diY l (b - 90000) = y at *
    generalize diZ (b - 90000) = z at *
    go_wp2
    exact bodyPost_ret (v := .agg #[.int .i64 x, .int .i64 y, .int .i64 z]) (by simp [results, Tryz.results49, go_sem, *]) rfl ⟨x, y, z, rfl, hvb.out, (((hs4.other (by have := S.bq; omega) n0 _ _).other (by have := S.bq; omega) n0 _ _).other (by have := S.bq; omega) n0 _ _).more (by omega), ((hbw.setO (Nat.le_refl _) _ _).setO (Nat.le_refl _) _ _).setO (Nat.le_refl _) _ _⟩
end Go.Proofs.YtmkmhljiajgibaaGreatDoor
