/-
  Drawn vectors, pairs of them, and turns.
-/
import Derived.Test.YtmkmhljiajgibaaGreatDoorDrw
namespace Go.Proofs.YtmkmhljiajgibaaGreatDoor
set_option linter.unusedVariables false
set_option linter.unusedSimpArgs false
open Go.RowKit
attribute [local go_sem ↓] Go.wp_at_zero Go.wp_at_succ
attribute [local go_sem] nn_e2 nn_e3 nn_e4 nn_f2 nn_f3 nn_f4 nn_l2 nn_l3 nn_l4 nn_m3 nn_m4 nn_k4

theorem Src.drew {w : World} {B q m : Nat} (h : Src w B q m) : Src w.drew B q m := h.keep (fun _ _ _ => rfl) (fun _ => rfl)
set_option maxHeartbeats 2000000 in
theorem sBent (B q m : Nat) (w : World) (S : Src w B q m) (hm : m ≤ 500000) :
    Calls Tryz.prog 40 #[.pointer (some ⟨q, 0, none⟩)] w (VecDrawn B q (m + 14) w) := by
  have hq := S.lt
  have hBq := S.bq
  have n0 : w.heap.size ≠ q := by omega
  have T0 := Lib.hid (Tri.new w 0 0 0 26)
  go_enter Tryz.func40, Tryz.ntmps40
  go_wp2_with fail
  (with_reducible refine (sVec _ _ _ _ (S.alloc _) (by omega)).mono ?_)
  rintro e w1 ⟨x, y, z, rfl, hvb, hs1, hb1⟩
  have T1 := Lib.hid (T0.out.but hb1 n0)
  have hg1 : w.heap.size < w1.heap.size := by have := hb1.size; simp at this; omega
  have gq : w1.heap.size ≠ q := by have := hs1.lt; omega
  have gg : w1.heap.size ≠ w.heap.size := by omega
  have HV := Lib.hid hvb
  clear T0 hvb
  go_wp2_with fail
  (with_reducible refine (sOne _ _ _ _ _ (hs1.alloc _) (by omega) (by omega) (by omega)).mono ?_)
  rintro e w2 ⟨vb, rfl, hs2, hb2⟩
  have T2 := Lib.hid ((T1.out.alloc _).but hb2 n0)
  have M2 := Lib.hid ((Tri.new w1 x y z 26).but hb2 gq)
  clear T1
  have hbw : But q w w2 := (((But.refl q w).alloc _).trans hb1 |>.alloc _).trans hb2
  cases vb
  · obtain ⟨k1, k2, k3, k4, k5, k6⟩ := T2.out
    obtain ⟨j1, j2, j3, j4, j5, j6⟩ := M2.out
    go_wp2
    exact bodyPost_ret (v := .agg #[.int .i64 x, .int .i64 y, .int .i64 z]) (by simp [results, Tryz.results40, go_sem, *]) rfl ⟨x, y, z, rfl, HV.out, (((hs2.other (by omega) n0 _ _).other (by omega) n0 _ _).other (by omega) n0 _ _).more (by omega), ((hbw.setO (Nat.le_refl _) _ _).setO (Nat.le_refl _) _ _).setO (Nat.le_refl _) _ _⟩
  · go_wp2_with fail
    (with_reducible refine (sAmongNew _ _ _ [2000001, -2000001] _ _ _ _ hs2 (by simp) (by simp) (by omega) (by omega) (by omega)).mono ?_)
    rintro e w3 ⟨v, rfl, hv, hs3, hb3⟩
    have hv2 : -3000000 ≤ v ∧ v ≤ 3000000 := by simp at hv; omega
    have HV2 : Hid (VB x v z) := ⟨HV.out.1, hv2, HV.out.2.2⟩
    have T3 := Lib.hid (T2.out.but hb3 n0)
    have M3 := Lib.hid (M2.out.but hb3 gq)
    have hbw3 := hbw.trans hb3
    clear hv T2 M2
    obtain ⟨k1, k2, k3, k4, k5, k6⟩ := T3.out
    obtain ⟨j1, j2, j3, j4, j5, j6⟩ := M3.out
    have gg' : ¬ w1.heap.size = w.heap.size := by omega
    have gg2 : ¬ w.heap.size = w1.heap.size := by omega
    go_wp2
    exact bodyPost_ret (v := .agg #[.int .i64 x, .int .i64 v, .int .i64 z]) (by simp [results, Tryz.results40, go_sem, *]) rfl ⟨x, v, z, rfl, HV2.out, ((((hs3.other (by omega) gq _ _).other (by omega) n0 _ _).other (by omega) n0 _ _).other (by omega) n0 _ _).more (by omega), (((hbw3.setO (by omega) _ _).setO (Nat.le_refl _) _ _).setO (Nat.le_refl _) _ _).setO (Nat.le_refl _) _ _⟩
def PairDrawn (B q m : Nat) (w : World) (e : Ending) (w' : World) : Prop := ∃ x y z x' y' z' : Int, e = .returned (.tuple #[.agg #[.int .i64 x, .int .i64 y, .int .i64 z], .agg #[.int .i64 x', .int .i64 y', .int .i64 z']]) ∧ Src w' B q m ∧ But q w w'
set_option maxHeartbeats 8000000 in
theorem sTwo (B q m : Nat) (w : World) (S : Src w B q m) (hm : m ≤ 400000) :
    Calls Tryz.prog 27 #[.pointer (some ⟨q, 0, none⟩)] w (PairDrawn B q (m + 40) w) := by
  have hq := S.lt
  have hBq := S.bq
  have n0 : w.heap.size ≠ q := by omega
  have n1 : w.heap.size + 1 ≠ q := by omega
  have T0 := Lib.hid ((Tri.new w 0 0 0 26).alloc (.cells #[.int .i64 0, .int .i64 0, .int .i64 0] 26))
  have U0 : Hid (Tri ((w.alloc (.cells #[.int .i64 0, .int .i64 0, .int .i64 0] 26)).alloc (.cells #[.int .i64 0, .int .i64 0, .int .i64 0] 26)) (w.heap.size + 1) 0 0 0) := by
    have h := Tri.new (w.alloc (.cells #[.int .i64 0, .int .i64 0, .int .i64 0] 26)) 0 0 0 26
    rw [World.size_alloc] at h
    exact Lib.hid h
  go_enter Tryz.func27, Tryz.ntmps27
  go_wp2_with fail
  (with_reducible refine (sBent _ _ _ _ ((S.alloc _).alloc _) (by omega)).mono ?_)
  rintro e w1 ⟨x, y, z, rfl, hvb, hs1, hb1⟩
  have T1 := Lib.hid (T0.out.but hb1 n0)
  have U1 := Lib.hid (U0.out.but hb1 n1)
  have hg1 : w.heap.size + 1 < w1.heap.size := by have := hb1.size; simp at this; omega
  have gq : w1.heap.size ≠ q := by have := hs1.lt; omega
  clear T0 U0
  obtain ⟨⟨x1, x2⟩, ⟨y1, y2⟩, z1, z2⟩ := hvb
  go_wp2_with fail
  (with_reducible refine (sPick _ _ _ _ _ (hs1.alloc _) (by omega) (by omega) (by omega)).mono ?_)
  rintro e w2 ⟨v, rfl, ⟨v1, v2⟩, hs2, hb2⟩
  have T2 := Lib.hid ((T1.out.alloc _).but hb2 n0)
  have U2 := Lib.hid ((U1.out.alloc _).but hb2 n1)
  have M2 := Lib.hid ((Tri.new w1 x y z 26).but hb2 gq)
  have hg2 : w1.heap.size < w2.heap.size := by have := hb2.size; simp at this; omega
  clear T1 U1
  have hbw : But q w w2 := ((((But.refl q w).alloc _).alloc _).trans hb1 |>.alloc _).trans hb2
  clear hb1 hb2 hs1
  obtain ⟨k1, k2, k3, k4, k5, k6⟩ := T2.out
  obtain ⟨j1, j2, j3, j4, j5, j6⟩ := U2.out
  obtain ⟨i1, i2, i3, i4, i5, i6⟩ := M2.out
  clear T2 U2 M2
  have a1 : ¬ w1.heap.size = w.heap.size := by omega
  have a2 : ¬ w.heap.size = w1.heap.size := by omega
  have a3 : ¬ w1.heap.size = w.heap.size + 1 := by omega
  have a4 : ¬ w.heap.size + 1 = w1.heap.size := by omega
  have b0 : ¬ w.heap.size = q := n0
  have b1 : ¬ w.heap.size + 1 = q := n1
  have b2 : ¬ w1.heap.size = q := gq
  have c0 : w.heap.size < w2.heap.size := by omega
  have c1 : w.heap.size + 1 < w2.heap.size := by omega
  have e1 : IntKind.i64.wrap (-x) = -x := IntWalk.i64_in _ (by omega)
  have e2 : IntKind.i64.wrap (-y) = -y := IntWalk.i64_in _ (by omega)
  have e3 : IntKind.i64.wrap (-z) = -z := IntWalk.i64_in _ (by omega)
  have hv : v = 0 ∨ v = 1 ∨ 2 ≤ v := by omega
  rcases hv with hv | hv | hv
  · go_wp2_with fail
    go_region_held3 (fun w' => w'.cell? ⟨w1.heap.size, 0, none⟩ = some (.int .i64 x) ∧ w'.cell? ⟨w1.heap.size, 1, none⟩ = some (.int .i64 y) ∧ w'.cell? ⟨w1.heap.size, 2, none⟩ = some (.int .i64 z)) (simp [*, World.cell?_alloc_some, World.cell?_setCell_far, World.cell?_alloc_past, nn_e2, nn_e3, nn_e4, nn_f2, nn_f3, nn_f4, nn_l2, nn_l3, nn_l4, nn_m3, nn_m4, nn_k4]) (first | (go_at_call 40; (with_reducible refine (sBent _ _ _ _ hs2 (by omega)).mono ?_); rintro e w' ⟨x', y', z', rfl, hvb', hs3, hbX⟩))
    all_goals go_wp2
    all_goals exact bodyPost_ret (v := .tuple #[.agg #[.int .i64 x, .int .i64 y, .int .i64 z], .agg #[.int .i64 x, .int .i64 y, .int .i64 z]]) (by simp [results, Tryz.results27, go_sem, *]) rfl ⟨x, y, z, x, y, z, rfl, Src.more (m := m + 14 + 2) (by ((repeat (first | (refine Src.other ?_ (by omega) (by omega) _ _) | (refine Src.drewN ?_ _))); assumption)) (by omega), by ((repeat (first | (refine But.setO ?_ (by omega) _ _) | (refine But.drewN ?_ _))); assumption)⟩
  · go_wp2_with fail
    go_region_held3 (fun w' => w'.cell? ⟨w1.heap.size, 0, none⟩ = some (.int .i64 x) ∧ w'.cell? ⟨w1.heap.size, 1, none⟩ = some (.int .i64 y) ∧ w'.cell? ⟨w1.heap.size, 2, none⟩ = some (.int .i64 z)) (simp [*, World.cell?_alloc_some, World.cell?_setCell_far, World.cell?_alloc_past, nn_e2, nn_e3, nn_e4, nn_f2, nn_f3, nn_f4, nn_l2, nn_l3, nn_l4, nn_m3, nn_m4, nn_k4]) (first | (go_at_call 40; (with_reducible refine (sBent _ _ _ _ hs2 (by omega)).mono ?_); rintro e w' ⟨x', y', z', rfl, hvb', hs3, hbX⟩))
    all_goals go_wp2
    all_goals exact bodyPost_ret (v := .tuple #[.agg #[.int .i64 x, .int .i64 y, .int .i64 z], .agg #[.int .i64 (-x), .int .i64 (-y), .int .i64 (-z)]]) (by simp [results, Tryz.results27, go_sem, *]) rfl ⟨x, y, z, -x, -y, -z, rfl, Src.more (m := m + 14 + 2) (by ((repeat (first | (refine Src.other ?_ (by omega) (by omega) _ _) | (refine Src.drewN ?_ _))); assumption)) (by omega), by ((repeat (first | (refine But.setO ?_ (by omega) _ _) | (refine But.drewN ?_ _))); assumption)⟩
  · go_wp2_with fail
    go_region_held3 (fun w' => w'.cell? ⟨w1.heap.size, 0, none⟩ = some (.int .i64 x) ∧ w'.cell? ⟨w1.heap.size, 1, none⟩ = some (.int .i64 y) ∧ w'.cell? ⟨w1.heap.size, 2, none⟩ = some (.int .i64 z)) (simp [*, World.cell?_alloc_some, World.cell?_setCell_far, World.cell?_alloc_past, nn_e2, nn_e3, nn_e4, nn_f2, nn_f3, nn_f4, nn_l2, nn_l3, nn_l4, nn_m3, nn_m4, nn_k4]) (first | (go_at_call 40; (with_reducible refine (sBent B q (m + 14 + 2) _ (by ((repeat (first | assumption | (refine Src.drew ?_) | (refine Src.drewN ?_ _) | (refine Src.other ?_ (by omega) (by omega) _ _) | (refine Src.alloc ?_ _))))) (by omega)).mono ?_); rintro e w' ⟨x', y', z', rfl, hvb', hs3, hbX⟩; have hcB := fun b o h1 h2 => But.cell hbX (b := b) o h1 h2; have hfB := fun b o h1 h2 => But.frozen hbX (b := b) o h1 h2; (try simp only [World.size_drew, World.cell?_drew, World.frozen?_drew, World.heap_drewN, World.cell?_drewN, World.frozen?_drewN] at hcB hfB)))
    all_goals have hbw3 := hbw.trans ((But.drewN (But.refl q w2) _).trans hbX)
    all_goals go_wp2
    all_goals exact bodyPost_ret (v := .tuple #[.agg #[.int .i64 x, .int .i64 y, .int .i64 z], .agg #[.int .i64 x', .int .i64 y', .int .i64 z']]) (by simp [results, Tryz.results27, go_sem, *]) rfl ⟨x, y, z, x', y', z', rfl, Src.more (m := m + 14 + 2 + 14) (by ((repeat (first | (refine Src.other ?_ (by omega) (by omega) _ _) | (refine Src.drewN ?_ _))); assumption)) (by omega), by ((repeat (first | (refine But.setO ?_ (by omega) _ _) | (refine But.drewN ?_ _))); assumption)⟩
end Go.Proofs.YtmkmhljiajgibaaGreatDoor
