/-
  Drawn moments.
-/
import Derived.Test.YtmkmhljiajgibaaDoorHelp
import Derived.Test.YtmkmhljiajgibaaDoorTime
import Derived.Deep.DeepCutAuto
import Derived.Deep.RegionHeld3
import Derived.Deep.DrawnRows
namespace Go.Proofs.YtmkmhljiajgibaaDoor
set_option linter.unusedVariables false
set_option linter.unusedSimpArgs false
open Go.RowKit
attribute [local go_sem ↓] Go.wp_at_zero Go.wp_at_succ
attribute [local go_sem] nn_e2 nn_e3 nn_e4 nn_f2 nn_f3 nn_f4 nn_l2 nn_l3 nn_l4 nn_m3 nn_m4 nn_k4

/-- A block of two numbers that the call may write. -/
structure Two (w : World) (g : Nat) (x y : Int) : Prop where
  c0 : w.cell? ⟨g, 0, none⟩ = some (.int .i64 x)
  c1 : w.cell? ⟨g, 1, none⟩ = some (.int .i64 y)
  f0 : w.frozen? ⟨g, 0, none⟩ = false
  f1 : w.frozen? ⟨g, 1, none⟩ = false
theorem Two.lt {w : World} {g : Nat} {x y : Int} (h : Two w g x y) : g < w.heap.size := cell_lt h.c0
theorem Two.new (w : World) (x y : Int) (t : TypeId) : Two (w.alloc (.cells #[.int .i64 x, .int .i64 y] t)) w.heap.size x y :=
  ⟨by rw [World.cell?_alloc_new]; rfl, by rw [World.cell?_alloc_new]; rfl, World.frozen?_alloc_at _ _ _ _ rfl, World.frozen?_alloc_at _ _ _ _ rfl⟩
theorem Two.keep {w w' : World} {g : Nat} {x y : Int} (h : Two w g x y) (hb : w'.heap[g]? = w.heap[g]?) : Two w' g x y :=
  ⟨(World.cell?_of_block (w := w) hb).trans h.c0, (World.cell?_of_block (w := w) hb).trans h.c1, (World.frozen?_of_block (w := w) hb).trans h.f0, (World.frozen?_of_block (w := w) hb).trans h.f1⟩
theorem Two.but {w w' : World} {g q : Nat} {x y : Int} (h : Two w g x y) (hb : But q w w') (hq : g ≠ q) : Two w' g x y := h.keep (hb.block g h.lt hq)
theorem Two.below {w w' : World} {g : Nat} {x y : Int} (h : Two w g x y) (hb : Below w.heap.size w w') : Two w' g x y := h.keep (hb.block g h.lt)
theorem Two.alloc {w : World} {g : Nat} {x y : Int} (h : Two w g x y) (o : Obj) : Two (w.alloc o) g x y := h.below ((Below.refl _ _).alloc (Nat.le_refl _) o)
theorem Two.drewN {w : World} {g : Nat} {x y : Int} (h : Two w g x y) (n : Nat) : Two (w.drewN n) g x y := h.keep rfl
theorem Two.other {w : World} {g b : Nat} {x y : Int} (h : Two w g x y) (hb : g ≠ b) (o : Nat) (v : Value) : Two (w.setCell ⟨b, o, none⟩ v) g x y := h.keep (Below.heap_setCell _ _ _ _ hb)
theorem Two.set0 {w : World} {g : Nat} {x y : Int} (h : Two w g x y) (v : Int) : Two (w.setCell ⟨g, 0, none⟩ (.int .i64 v)) g v y :=
  ⟨World.cell?_setCell_same _ _ _ h.c0, (World.cell?_setCell_other _ _ _ _ (by simp)).trans h.c1, (World.frozen?_setCell _ _ _ _).trans h.f0, (World.frozen?_setCell _ _ _ _).trans h.f1⟩
theorem Two.set1 {w : World} {g : Nat} {x y : Int} (h : Two w g x y) (v : Int) : Two (w.setCell ⟨g, 1, none⟩ (.int .i64 v)) g x v :=
  ⟨(World.cell?_setCell_other _ _ _ _ (by simp)).trans h.c0, World.cell?_setCell_same _ _ _ h.c1, (World.frozen?_setCell _ _ _ _).trans h.f0, (World.frozen?_setCell _ _ _ _).trans h.f1⟩
theorem But.setO {q : Nat} {a w : World} (h : But q a w) {g : Nat} (hg : a.heap.size ≤ g) (o : Nat) (v : Value) : But q a (w.setCell ⟨g, o, none⟩ v) :=
  ⟨h.os, h.tape, h.output, by simpa [World.setCell] using h.size, fun k hk hq => (Below.heap_setCell _ _ _ _ (by show k ≠ g; omega)).trans (h.block k hk hq)⟩
/-- A drawn moment. -/
def MomDrawn (B q m : Nat) (w : World) (e : Ending) (w' : World) : Prop := ∃ d x : Int, e = .returned (.agg #[.int .i64 d, .int .i64 x]) ∧ okM d x = true ∧ Src w' B q m ∧ But q w w'
set_option maxHeartbeats 2000000 in
theorem sDraw3 (B q m : Nat) (w : World) (S : Src w B q m) (hm : m ≤ 800000) :
    Calls Tryd.prog 28 #[.pointer (some ⟨q, 0, none⟩)] w (MomDrawn B q (m + 10) w) := by
  have hq := S.lt
  have hBq := S.bq
  have n0 : ¬ w.heap.size = q := by omega
  go_enter Tryd.func28, Tryd.ntmps28
  go_wp2_with fail
  (with_reducible refine (sPick _ _ _ _ _ (S.alloc _) (by omega) (by omega) (by omega)).mono ?_)
  rintro e w1 ⟨d, rfl, ⟨d1, d2⟩, hs1, hb1⟩
  have y1 := hs1.lt
  have z1 : w.heap.size < w1.heap.size := by have := hb1.size; simp at this; omega
  have T1 := Lib.hid ((Two.new w 0 0 _).but hb1 n0)
  have gq : w1.heap.size ≠ q := by omega
  have gq' : ¬ w1.heap.size = q := by omega
  have gg : ¬ w1.heap.size = w.heap.size := by omega
  have gg' : ¬ w.heap.size = w1.heap.size := by omega
  have gB : B ≤ w1.heap.size := by omega
  go_wp2_with fail
  (with_reducible refine (sPick _ _ _ _ _ (hs1.alloc _) (by omega) (by omega) (by omega)).mono ?_)
  rintro e w2 ⟨p, rfl, ⟨p1, p2⟩, hs2, hb2⟩
  have T2 := Lib.hid ((T1.out.alloc _).but hb2 n0)
  have M2 := Lib.hid ((Two.new w1 d 0 _).but hb2 gq)
  clear T1
  go_wp2_with fail
  (with_reducible refine (sPick _ _ _ _ _ hs2 (by omega) (by omega) (by omega)).mono ?_)
  rintro e w3 ⟨r, rfl, ⟨r1, r2⟩, hs3, hb3⟩
  have T3 := Lib.hid (T2.out.but hb3 n0)
  have M3 := Lib.hid (M2.out.but hb3 gq)
  clear T2 M2
  obtain ⟨k1, k2, k3, k4⟩ := M3.out
  go_wp2_with fail
  (with_reducible refine (sOne _ _ _ _ _ (hs3.other gB gq _ _) (by omega) (by omega) (by omega)).mono ?_)
  rintro e w4 ⟨vb, rfl, hs4, hb4⟩
  clear k1 k2 k3 k4
  have T4 := Lib.hid ((T3.out.other gg' _ _).but hb4 n0)
  have M4 := Lib.hid ((M3.out.set1 _).but hb4 gq)
  clear T3 M3
  have hbs : But q w w4 := ((((((But.refl q w).alloc _).trans hb1).alloc _).trans hb2).trans hb3).setO (by omega) _ _ |>.trans hb4
  have hwq : w.heap.size ≤ w4.heap.size := hbs.size
  cases vb
  · obtain ⟨k1, k2, k3, k4⟩ := M4.out
    obtain ⟨t1, t2, t3, t4⟩ := T4.out
    go_wp2
    exact bodyPost_ret (v := .agg #[.int .i64 d, .int .i64 (1000 * p + r)]) (by simp [results, Tryd.results28, go_sem, *]) rfl ⟨d, 1000 * p + r, rfl, okM_mk (by omega), ((hs4.other (by omega) (by omega) _ _).other (by omega) (by omega) _ _).more (by omega), (hbs.setO (by omega) _ _).setO (by omega) _ _⟩
  · go_wp2_with fail
    (with_reducible refine (sAmongNew _ _ _ [0, 59, 60, 99999] _ _ _ _ hs4 (by simp) (by simp) (by omega) (by omega) (by omega)).mono ?_)
    rintro e w5 ⟨v, rfl, hv, hs5, hb5⟩
    have hv2 : 0 ≤ v ∧ v ≤ 99999 := by simp at hv; omega
    clear hv
    have M5 := Lib.hid (M4.out.but hb5 gq)
    have T5 := Lib.hid (T4.out.but hb5 n0)
    have hbs5 := hbs.trans hb5
    have hw5 := hbs5.size
    obtain ⟨k1, k2, k3, k4⟩ := M5.out
    obtain ⟨t1, t2, t3, t4⟩ := T5.out
    go_wp2
    exact bodyPost_ret (v := .agg #[.int .i64 v, .int .i64 (1000 * p + r)]) (by simp [results, Tryd.results28, go_sem, *]) rfl ⟨v, 1000 * p + r, rfl, okM_mk (by omega), (((hs5.other gB gq _ _).other (by omega) (by omega) _ _).other (by omega) (by omega) _ _).more (by omega), ((hbs5.setO (by omega) _ _).setO (by omega) _ _).setO (by omega) _ _⟩
theorem sR8Moment (a : Option Addr) (n c : Nat) (zs : List Int) (w : World) (R : RowB w w.heap.size a n zs) (hn : n ≤ 1048576) :
    Calls Tryd.prog 6 #[.slice a n c] w fun e w' => ∃ d x : Int, e = .returned (.agg #[.int .i64 d, .int .i64 x]) ∧ okM d x = true ∧ Below w.heap.size w w' := by
  have RA := fun o => R.below (Nat.le_refl _) ((Below.refl w.heap.size w).alloc (Nat.le_refl _) o)
  have HN := Lib.hid hn
  clear hn R
  go_enter Tryd.func6, Tryd.ntmps6
  go_wp2_with fail
  (with_reducible refine (sFromB _ _ _ _ w.heap.size _ (RA _) (by simp) HN.out).mono ?_)
  rintro e w1 ⟨rfl, hsrc, hb1, hlt1⟩
  have hsrc : Src w1 w.heap.size (w.heap.size + 1) 0 := by simpa using hsrc
  have T1 := Lib.hid ((Two.new w 0 0 _).below hb1)
  have q1 : w.heap.size < (w.alloc (.cells #[.int .i64 0, .int .i64 0] 25)).heap.size := by simp
  have hbw : Below w.heap.size w w1 := ((Below.refl w.heap.size w).alloc (Nat.le_refl _) _).trans (hb1.mono (Nat.le_of_lt q1))
  go_wp2_with fail
  (with_reducible refine (sDraw3 _ _ _ _ hsrc (by omega)).mono ?_)
  rintro e w2 ⟨d, x, rfl, hok, hs2, hb2⟩
  have hne : w.heap.size ≠ w.heap.size + 1 := by omega
  have T2 := Lib.hid (T1.out.but hb2 hne)
  have hbw2 : Below w.heap.size w w2 := hbw.trans (hb2.below (by omega) hbw.size)
  clear hb1 hb2 hsrc hs2 hlt1 q1 hne T1 hbw RA
  obtain ⟨t1, t2, t3, t4⟩ := T2.out
  go_wp2
  exact bodyPost_ret (v := .agg #[.int .i64 d, .int .i64 x]) (by simp [results, Tryd.results6, go_sem, *]) rfl ⟨d, x, rfl, hok, by (repeat (first | exact Below.refl _ _ | assumption | (refine Below.drewN ?_ _) | (refine Below.drew ?_) | (refine Below.alloc ?_ (by first | (simp; done) | (simp; omega) | omega) _) | (refine Below.setCell ?_ (by first | (simp; done) | (simp; omega) | omega) _) | (refine Below.trans ?_ (Below.mono (by assumption) (by first | (simp; done) | (simp; omega) | omega)))))⟩
end Go.Proofs.YtmkmhljiajgibaaDoor
