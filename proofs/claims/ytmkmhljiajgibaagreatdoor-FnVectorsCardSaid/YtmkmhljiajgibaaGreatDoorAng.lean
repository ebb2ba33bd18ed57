/-
  Contracts of the angles of a vector.
-/
import Derived.Test.YtmkmhljiajgibaaGreatDoorArc2
import Derived.Test.YtmkmhljiajgibaaGreatDoorRoot
import Derived.Test.YtmkmhljiajgibaaGreatDoorVec
import Derived.Test.YtmkmhljiajgibaaGreatDoorMturn
import Derived.Outline
namespace Go.Proofs.YtmkmhljiajgibaaGreatDoor
set_option linter.unusedVariables false
set_option linter.unusedSimpArgs false
open Go.RowKit
attribute [local go_sem ↓] Go.wp_at_zero Go.wp_at_succ
attribute [local go_sem] nn_e2 nn_e3 nn_e4 nn_f2 nn_f3 nn_f4 nn_l2 nn_l3 nn_l4 nn_m3 nn_m4 nn_k4

theorem at_arc {y x : Int} (x1 : -1000000000000 ≤ x) (x2 : x ≤ 1000000000000) (y1 : -1000000000000 ≤ y) (y2 : y ≤ 1000000000000) (h : x ≠ 0 ∨ y ≠ 0) : atA y x = arcF y x ∧ atC y x = 0 := by
  have hat : atB y x = true := by unfold atB; rw [inB_mk ⟨x1, x2⟩, inB_mk ⟨y1, y2⟩]; rfl
  have hz : (x == 0 && y == 0) = false := by
    cases h' : (x == 0 && y == 0)
    · rfl
    · simp only [Bool.and_eq_true, beq_iff_eq] at h'; omega
  unfold atA atC
  rw [hat, if_pos rfl, if_pos rfl, hz]
  exact ⟨rfl, rfl⟩
theorem at_bd (y x : Int) : 0 ≤ atA y x ∧ atA y x < 360000 := by
  have := arcF_bd y x
  unfold atA
  split
  · split <;> omega
  · omega
noncomputable def anLon (x y : Int) : Int := atA y x
noncomputable def anLat (x y z : Int) : Int := if 90000 < atA z (rootF (x * x + y * y)) then atA z (rootF (x * x + y * y)) - 360000 else atA z (rootF (x * x + y * y))
def zeroV (x y z : Int) : Bool := decide (x = 0 ∧ y = 0 ∧ z = 0)
noncomputable def agX (x y z : Int) : Int := if okV x y z && !zeroV x y z then anLon x y else 0
noncomputable def agY (x y z : Int) : Int := if okV x y z && !zeroV x y z then anLat x y z else 0
def agC (x y z : Int) : Int := if okV x y z then (if zeroV x y z then 6 else 0) else 1
theorem root_not {x y z : Int} (h : ¬ (x = 0 ∧ y = 0 ∧ z = 0)) : rootF (x * x + y * y) ≠ 0 ∨ z ≠ 0 := by
  by_cases hz : z = 0
  · left
    have hx := sq_nn x
    have hy := sq_nn y
    intro e
    have hs := rootF_spec (show 0 ≤ x * x + y * y by omega)
    rw [e] at hs
    have h3 := hs.2.2
    have h4 : x * x = 0 := by omega
    have h5 : y * y = 0 := by omega
    have := sq_zero h4
    have := sq_zero h5
    omega
  · exact .inr hz
set_option maxHeartbeats 2000000 in
theorem iAngA (x y z V : Int) (w : World) (hS : SinesIn w) (x1 : -2000000 ≤ x) (x2 : x ≤ 2000000) (y1 : -2000000 ≤ y) (y2 : y ≤ 2000000) (z1 : -2000000 ≤ z) (z2 : z ≤ 2000000) (hx : x ≠ 0) (HV : Hid (V = if 90000 < atA z (rootF (x * x + y * y)) then atA z (rootF (x * x + y * y)) - 360000 else atA z (rootF (x * x + y * y)))) :
    Calls Tryz.prog 7 #[.agg #[.int .i64 x, .int .i64 y, .int .i64 z]] w fun e w' => e = .returned (.tuple #[.int .i64 (atA y x), .int .i64 V, .int .i64 0]) ∧ Below w.heap.size w w' := by
  have c1 : okV x y z = true := okV_mk (by omega)
  have hS0 := hS.alloc
  have mx := mul_okV x1 x2 x1 x2
  have my := mul_okV y1 y2 y1 y2
  have e1 : IntKind.i64.wrap (x * x) = x * x := IntWalk.i64_in _ (by omega)
  have e2 : IntKind.i64.wrap (y * y) = y * y := IntWalk.i64_in _ (by omega)
  have e3 : IntKind.i64.wrap (x * x + y * y) = x * x + y * y := IntWalk.i64_in _ (by omega)
  have nb1 : -9223372036854775808 ≤ x * x + y * y := by omega
  have nb2 : x * x + y * y ≤ 9223372036854775807 := by omega
  obtain ⟨r1, r2⟩ := rootF_bd (x * x + y * y) nb2
  obtain ⟨t1, t2⟩ := at_bd z (rootF (x * x + y * y))
  by_cases hA : 90000 < atA z (rootF (x * x + y * y))
  · have E : Hid (V = atA z (rootF (x * x + y * y)) - 360000) := by show _ = _; rw [HV.out, if_pos hA]
    clear HV
    go_enter Tryz.func7, Tryz.ntmps7
    go_wp2_with fail
    (with_reducible refine (iValidVector _ _ _ _).mono ?_)
    rintro e W1 ⟨rfl, hb1⟩
    have hs1 := hb1.size
    (try simp at hs1)
    obtain ⟨hc1, hf1⟩ := bcell hb1
    (try have hz0_1 : w.heap.size < W1.heap.size := by omega)
    (try have hy0_1 : w.heap.size + 1 < W1.heap.size := by omega)
    have hS1 := (hS0 _).below hb1
    go_wp2_with (go_at_call 22; (with_reducible refine (iArcTangent _ _ _ (by first | assumption | exact SinesIn.drewN (by assumption) _)).mono ?_); rintro e w' ⟨rfl, n, rfl⟩)
    go_region_held3 (fun w' => w'.cell? ⟨w.heap.size, 0, none⟩ = some (.int .i64 x) ∧ w'.cell? ⟨w.heap.size, 1, none⟩ = some (.int .i64 y) ∧ w'.cell? ⟨w.heap.size, 2, none⟩ = some (.int .i64 z)) (simp [*, World.cell?_alloc_some, World.cell?_setCell_far, World.cell?_alloc_past, nn_e2, nn_e3, nn_e4, nn_f2, nn_f3, nn_f4, nn_l2, nn_l3, nn_l4, nn_m3, nn_m4, nn_k4]) (first | (go_at_call 23; (with_reducible refine (iRootOf _ _ nb1 nb2).mono ?_); rintro e w' ⟨rfl, rfl⟩) | (go_at_call 22; (with_reducible refine (iArcTangent _ _ _ (by first | assumption | exact SinesIn.drewN (by assumption) _)).mono ?_); rintro e w' ⟨rfl, n, rfl⟩))
    go_wp2
    go_ret3
    exact ⟨ret_iii rfl E.out.symm rfl, by (repeat (first | exact Below.refl _ _ | assumption | (refine Below.drewN ?_ _) | (refine Below.drew ?_) | (refine Below.alloc ?_ (by first | (simp; done) | (simp; omega) | omega) _) | (refine Below.setCell ?_ (by first | (simp; done) | (simp; omega) | omega) _) | (refine Below.trans ?_ (Below.mono (by assumption) (by first | (simp; done) | (simp; omega) | omega)))))⟩
  · have E : Hid (V = atA z (rootF (x * x + y * y))) := by show _ = _; rw [HV.out, if_neg hA]
    clear HV
    go_enter Tryz.func7, Tryz.ntmps7
    go_wp2_with fail
    (with_reducible refine (iValidVector _ _ _ _).mono ?_)
    rintro e W1 ⟨rfl, hb1⟩
    have hs1 := hb1.size
    (try simp at hs1)
    obtain ⟨hc1, hf1⟩ := bcell hb1
    (try have hz0_1 : w.heap.size < W1.heap.size := by omega)
    (try have hy0_1 : w.heap.size + 1 < W1.heap.size := by omega)
    have hS1 := (hS0 _).below hb1
    go_wp2_with (go_at_call 22; (with_reducible refine (iArcTangent _ _ _ (by first | assumption | exact SinesIn.drewN (by assumption) _)).mono ?_); rintro e w' ⟨rfl, n, rfl⟩)
    go_region_held3 (fun w' => w'.cell? ⟨w.heap.size, 0, none⟩ = some (.int .i64 x) ∧ w'.cell? ⟨w.heap.size, 1, none⟩ = some (.int .i64 y) ∧ w'.cell? ⟨w.heap.size, 2, none⟩ = some (.int .i64 z)) (simp [*, World.cell?_alloc_some, World.cell?_setCell_far, World.cell?_alloc_past, nn_e2, nn_e3, nn_e4, nn_f2, nn_f3, nn_f4, nn_l2, nn_l3, nn_l4, nn_m3, nn_m4, nn_k4]) (first | (go_at_call 23; (with_reducible refine (iRootOf _ _ nb1 nb2).mono ?_); rintro e w' ⟨rfl, rfl⟩) | (go_at_call 22; (with_reducible refine (iArcTangent _ _ _ (by first | assumption | exact SinesIn.drewN (by assumption) _)).mono ?_); rintro e w' ⟨rfl, n, rfl⟩))
    go_wp2
    go_ret3
    exact ⟨ret_iii rfl E.out.symm rfl, by (repeat (first | exact Below.refl _ _ | assumption | (refine Below.drewN ?_ _) | (refine Below.drew ?_) | (refine Below.alloc ?_ (by first | (simp; done) | (simp; omega) | omega) _) | (refine Below.setCell ?_ (by first | (simp; done) | (simp; omega) | omega) _) | (refine Below.trans ?_ (Below.mono (by assumption) (by first | (simp; done) | (simp; omega) | omega)))))⟩
set_option maxHeartbeats 2000000 in
theorem iAngB (y z V : Int) (w : World) (hS : SinesIn w) (y1 : -2000000 ≤ y) (y2 : y ≤ 2000000) (z1 : -2000000 ≤ z) (z2 : z ≤ 2000000) (hy : y ≠ 0) (HV : Hid (V = if 90000 < atA z (rootF (y * y)) then atA z (rootF (y * y)) - 360000 else atA z (rootF (y * y)))) :
    Calls Tryz.prog 7 #[.agg #[.int .i64 0, .int .i64 y, .int .i64 z]] w fun e w' => e = .returned (.tuple #[.int .i64 (atA y 0), .int .i64 V, .int .i64 0]) ∧ Below w.heap.size w w' := by
  have c1 : okV 0 y z = true := okV_mk (by omega)
  have hS0 := hS.alloc
  have my := mul_okV y1 y2 y1 y2
  have e1 : IntKind.i64.wrap (y * y) = y * y := IntWalk.i64_in _ (by omega)
  have w0 : IntKind.i64.wrap 0 = 0 := IntWalk.i64_in _ (by omega)
  have w1 : IntKind.i64.wrap (0 + y * y) = y * y := by rw [IntWalk.i64_in _ (by omega)]; omega
  have nb1 : -9223372036854775808 ≤ y * y := by omega
  have nb2 : y * y ≤ 9223372036854775807 := by omega
  obtain ⟨r1, r2⟩ := rootF_bd (y * y) nb2
  obtain ⟨t1, t2⟩ := at_bd z (rootF (y * y))
  by_cases hA : 90000 < atA z (rootF (y * y))
  · have E : Hid (V = atA z (rootF (y * y)) - 360000) := by show _ = _; rw [HV.out, if_pos hA]
    clear HV
    go_enter Tryz.func7, Tryz.ntmps7
    go_wp2_with fail
    (with_reducible refine (iValidVector _ _ _ _).mono ?_)
    rintro e W1 ⟨rfl, hb1⟩
    have hs1 := hb1.size
    (try simp at hs1)
    obtain ⟨hc1, hf1⟩ := bcell hb1
    (try have hz0_1 : w.heap.size < W1.heap.size := by omega)
    (try have hy0_1 : w.heap.size + 1 < W1.heap.size := by omega)
    have hS1 := (hS0 _).below hb1
    go_wp2_with (go_at_call 22; (with_reducible refine (iArcTangent _ _ _ (by first | assumption | exact SinesIn.drewN (by assumption) _)).mono ?_); rintro e w' ⟨rfl, n, rfl⟩)
    go_region_held3 (fun w' => w'.cell? ⟨w.heap.size, 0, none⟩ = some (.int .i64 0) ∧ w'.cell? ⟨w.heap.size, 1, none⟩ = some (.int .i64 y) ∧ w'.cell? ⟨w.heap.size, 2, none⟩ = some (.int .i64 z)) (simp [*, World.cell?_alloc_some, World.cell?_setCell_far, World.cell?_alloc_past, nn_e2, nn_e3, nn_e4, nn_f2, nn_f3, nn_f4, nn_l2, nn_l3, nn_l4, nn_m3, nn_m4, nn_k4]) (first | (go_at_call 23; (with_reducible refine (iRootOf _ _ nb1 nb2).mono ?_); rintro e w' ⟨rfl, rfl⟩) | (go_at_call 22; (with_reducible refine (iArcTangent _ _ _ (by first | assumption | exact SinesIn.drewN (by assumption) _)).mono ?_); rintro e w' ⟨rfl, n, rfl⟩))
    go_wp2
    go_ret3
    exact ⟨ret_iii rfl E.out.symm rfl, by (repeat (first | exact Below.refl _ _ | assumption | (refine Below.drewN ?_ _) | (refine Below.drew ?_) | (refine Below.alloc ?_ (by first | (simp; done) | (simp; omega) | omega) _) | (refine Below.setCell ?_ (by first | (simp; done) | (simp; omega) | omega) _) | (refine Below.trans ?_ (Below.mono (by assumption) (by first | (simp; done) | (simp; omega) | omega)))))⟩
  · have E : Hid (V = atA z (rootF (y * y))) := by show _ = _; rw [HV.out, if_neg hA]
    clear HV
    go_enter Tryz.func7, Tryz.ntmps7
    go_wp2_with fail
    (with_reducible refine (iValidVector _ _ _ _).mono ?_)
    rintro e W1 ⟨rfl, hb1⟩
    have hs1 := hb1.size
    (try simp at hs1)
    obtain ⟨hc1, hf1⟩ := bcell hb1
    (try have hz0_1 : w.heap.size < W1.heap.size := by omega)
    (try have hy0_1 : w.heap.size + 1 < W1.heap.size := by omega)
    have hS1 := (hS0 _).below hb1
    go_wp2_with (go_at_call 22; (with_reducible refine (iArcTangent _ _ _ (by first | assumption | exact SinesIn.drewN (by assumption) _)).mono ?_); rintro e w' ⟨rfl, n, rfl⟩)
    go_region_held3 (fun w' => w'.cell? ⟨w.heap.size, 0, none⟩ = some (.int .i64 0) ∧ w'.cell? ⟨w.heap.size, 1, none⟩ = some (.int .i64 y) ∧ w'.cell? ⟨w.heap.size, 2, none⟩ = some (.int .i64 z)) (simp [*, World.cell?_alloc_some, World.cell?_setCell_far, World.cell?_alloc_past, nn_e2, nn_e3, nn_e4, nn_f2, nn_f3, nn_f4, nn_l2, nn_l3, nn_l4, nn_m3, nn_m4, nn_k4]) (first | (go_at_call 23; (with_reducible refine (iRootOf _ _ nb1 nb2).mono ?_); rintro e w' ⟨rfl, rfl⟩) | (go_at_call 22; (with_reducible refine (iArcTangent _ _ _ (by first | assumption | exact SinesIn.drewN (by assumption) _)).mono ?_); rintro e w' ⟨rfl, n, rfl⟩))
    go_wp2
    go_ret3
    exact ⟨ret_iii rfl E.out.symm rfl, by (repeat (first | exact Below.refl _ _ | assumption | (refine Below.drewN ?_ _) | (refine Below.drew ?_) | (refine Below.alloc ?_ (by first | (simp; done) | (simp; omega) | omega) _) | (refine Below.setCell ?_ (by first | (simp; done) | (simp; omega) | omega) _) | (refine Below.trans ?_ (Below.mono (by assumption) (by first | (simp; done) | (simp; omega) | omega)))))⟩
set_option maxHeartbeats 2000000 in
theorem iAngC (z V : Int) (w : World) (hS : SinesIn w) (z1 : -2000000 ≤ z) (z2 : z ≤ 2000000) (hz : z ≠ 0) (HV : Hid (V = if 90000 < atA z (rootF (0)) then atA z (rootF (0)) - 360000 else atA z (rootF (0)))) :
    Calls Tryz.prog 7 #[.agg #[.int .i64 0, .int .i64 0, .int .i64 z]] w fun e w' => e = .returned (.tuple #[.int .i64 (atA 0 0), .int .i64 V, .int .i64 0]) ∧ Below w.heap.size w w' := by
  have c1 : okV 0 0 z = true := okV_mk (by omega)
  have hS0 := hS.alloc
  have w0 : IntKind.i64.wrap 0 = 0 := IntWalk.i64_in _ (by omega)
  have w1 : IntKind.i64.wrap (0 + 0) = 0 := IntWalk.i64_in _ (by omega)
  have nb1 : -9223372036854775808 ≤ (0 : Int) := by omega
  have nb2 : (0 : Int) ≤ 9223372036854775807 := by omega
  obtain ⟨r1, r2⟩ := rootF_bd (0) nb2
  obtain ⟨t1, t2⟩ := at_bd z (rootF (0))
  by_cases hA : 90000 < atA z (rootF (0))
  · have E : Hid (V = atA z (rootF (0)) - 360000) := by show _ = _; rw [HV.out, if_pos hA]
    clear HV
    go_enter Tryz.func7, Tryz.ntmps7
    go_wp2_with fail
    (with_reducible refine (iValidVector _ _ _ _).mono ?_)
    rintro e W1 ⟨rfl, hb1⟩
    have hs1 := hb1.size
    (try simp at hs1)
    obtain ⟨hc1, hf1⟩ := bcell hb1
    (try have hz0_1 : w.heap.size < W1.heap.size := by omega)
    (try have hy0_1 : w.heap.size + 1 < W1.heap.size := by omega)
    have hS1 := (hS0 _).below hb1
    go_wp2_with (go_at_call 22; (with_reducible refine (iArcTangent _ _ _ (by first | assumption | exact SinesIn.drewN (by assumption) _)).mono ?_); rintro e w' ⟨rfl, n, rfl⟩)
    go_region_held3 (fun w' => w'.cell? ⟨w.heap.size, 0, none⟩ = some (.int .i64 0) ∧ w'.cell? ⟨w.heap.size, 1, none⟩ = some (.int .i64 0) ∧ w'.cell? ⟨w.heap.size, 2, none⟩ = some (.int .i64 z)) (simp [*, World.cell?_alloc_some, World.cell?_setCell_far, World.cell?_alloc_past, nn_e2, nn_e3, nn_e4, nn_f2, nn_f3, nn_f4, nn_l2, nn_l3, nn_l4, nn_m3, nn_m4, nn_k4]) (first | (go_at_call 23; (with_reducible refine (iRootOf _ _ nb1 nb2).mono ?_); rintro e w' ⟨rfl, rfl⟩) | (go_at_call 22; (with_reducible refine (iArcTangent _ _ _ (by first | assumption | exact SinesIn.drewN (by assumption) _)).mono ?_); rintro e w' ⟨rfl, n, rfl⟩))
    go_wp2
    go_ret3
    exact ⟨ret_iii rfl E.out.symm rfl, by (repeat (first | exact Below.refl _ _ | assumption | (refine Below.drewN ?_ _) | (refine Below.drew ?_) | (refine Below.alloc ?_ (by first | (simp; done) | (simp; omega) | omega) _) | (refine Below.setCell ?_ (by first | (simp; done) | (simp; omega) | omega) _) | (refine Below.trans ?_ (Below.mono (by assumption) (by first | (simp; done) | (simp; omega) | omega)))))⟩
  · have E : Hid (V = atA z (rootF (0))) := by show _ = _; rw [HV.out, if_neg hA]
    clear HV
    go_enter Tryz.func7, Tryz.ntmps7
    go_wp2_with fail
    (with_reducible refine (iValidVector _ _ _ _).mono ?_)
    rintro e W1 ⟨rfl, hb1⟩
    have hs1 := hb1.size
    (try simp at hs1)
    obtain ⟨hc1, hf1⟩ := bcell hb1
    (try have hz0_1 : w.heap.size < W1.heap.size := by omega)
    (try have hy0_1 : w.heap.size + 1 < W1.heap.size := by omega)
    have hS1 := (hS0 _).below hb1
    go_wp2_with (go_at_call 22; (with_reducible refine (iArcTangent _ _ _ (by first | assumption | exact SinesIn.drewN (by assumption) _)).mono ?_); rintro e w' ⟨rfl, n, rfl⟩)
    go_region_held3 (fun w' => w'.cell? ⟨w.heap.size, 0, none⟩ = some (.int .i64 0) ∧ w'.cell? ⟨w.heap.size, 1, none⟩ = some (.int .i64 0) ∧ w'.cell? ⟨w.heap.size, 2, none⟩ = some (.int .i64 z)) (simp [*, World.cell?_alloc_some, World.cell?_setCell_far, World.cell?_alloc_past, nn_e2, nn_e3, nn_e4, nn_f2, nn_f3, nn_f4, nn_l2, nn_l3, nn_l4, nn_m3, nn_m4, nn_k4]) (first | (go_at_call 23; (with_reducible refine (iRootOf _ _ nb1 nb2).mono ?_); rintro e w' ⟨rfl, rfl⟩) | (go_at_call 22; (with_reducible refine (iArcTangent _ _ _ (by first | assumption | exact SinesIn.drewN (by assumption) _)).mono ?_); rintro e w' ⟨rfl, n, rfl⟩))
    go_wp2
    go_ret3
    exact ⟨ret_iii rfl E.out.symm rfl, by (repeat (first | exact Below.refl _ _ | assumption | (refine Below.drewN ?_ _) | (refine Below.drew ?_) | (refine Below.alloc ?_ (by first | (simp; done) | (simp; omega) | omega) _) | (refine Below.setCell ?_ (by first | (simp; done) | (simp; omega) | omega) _) | (refine Below.trans ?_ (Below.mono (by assumption) (by first | (simp; done) | (simp; omega) | omega)))))⟩
theorem ag_no {x y z : Int} (h : okV x y z = false) : agX x y z = 0 ∧ agY x y z = 0 ∧ agC x y z = 1 := by simp [agX, agY, agC, h]
theorem ag_zero : agX 0 0 0 = 0 ∧ agY 0 0 0 = 0 ∧ agC 0 0 0 = 6 := by
  have h : okV 0 0 0 = true := okV_mk (by omega)
  simp [agX, agY, agC, h, zeroV]
theorem ag_yes {x y z : Int} (h : okV x y z = true) (hz : ¬ (x = 0 ∧ y = 0 ∧ z = 0)) : agX x y z = atA y x ∧ agY x y z = anLat x y z ∧ agC x y z = 0 := by
  have h2 : zeroV x y z = false := decide_eq_false hz
  simp [agX, agY, agC, h, h2, anLon]
theorem iAngles (x y z : Int) (w : World) (hS : SinesIn w) :
    Calls Tryz.prog 7 #[.agg #[.int .i64 x, .int .i64 y, .int .i64 z]] w fun e w' => e = .returned (.tuple #[.int .i64 (agX x y z), .int .i64 (agY x y z), .int .i64 (agC x y z)]) ∧ Below w.heap.size w w' := by
  cases c1 : okV x y z
  · obtain ⟨r1, r2, r3⟩ := ag_no c1
    rw [r1, r2, r3]; clear r1 r2 r3
    go_enter Tryz.func7, Tryz.ntmps7
    go_wp2_with (go_at_call 21; (with_reducible refine (iValidVector _ _ _ _).mono ?_); rintro e w' ⟨rfl, hb⟩; have hs := hb.size; (try simp at hs); (try have hz : w.heap.size < w'.heap.size := by omega); (try have hy : w.heap.size < w'.heap.size + 1 := by omega); (try have hyy : w.heap.size < w'.heap.size + 1 + 1 := by omega); (try have hz1 : w.heap.size + 1 < w'.heap.size := by omega); (try have hn : ¬ w'.heap.size = w.heap.size := by omega); (try have hn1 : ¬ w'.heap.size = w.heap.size + 1 := by omega); (try have hz2 : w.heap.size + 1 + 1 < w'.heap.size := by omega); (try have hq := Nat.lt_of_lt_of_le (by assumption) hs); (try have hq := Nat.lt_of_succ_le hs); obtain ⟨hc, hf⟩ := bcell hb; (try simp only [World.size_drew, World.cell?_drew, World.frozen?_drew, World.heap_drewN, World.cell?_drewN, World.frozen?_drewN] at hc hf))
    go_ret3
    exact ⟨rfl, by (repeat (first | exact Below.refl _ _ | assumption | (refine Below.drewN ?_ _) | (refine Below.drew ?_) | (refine Below.alloc ?_ (by first | (simp; done) | (simp; omega) | omega) _) | (refine Below.setCell ?_ (by first | (simp; done) | (simp; omega) | omega) _) | (refine Below.trans ?_ (Below.mono (by assumption) (by first | (simp; done) | (simp; omega) | omega)))))⟩
  obtain ⟨⟨x1, x2⟩, ⟨y1, y2⟩, z1, z2⟩ := okV_t c1
  by_cases hz : x = 0 ∧ y = 0 ∧ z = 0
  · obtain ⟨rfl, rfl, rfl⟩ := hz
    obtain ⟨r1, r2, r3⟩ := ag_zero
    rw [r1, r2, r3]; clear r1 r2 r3
    go_enter Tryz.func7, Tryz.ntmps7
    go_wp2_with (go_at_call 21; (with_reducible refine (iValidVector _ _ _ _).mono ?_); rintro e w' ⟨rfl, hb⟩; have hs := hb.size; (try simp at hs); (try have hz : w.heap.size < w'.heap.size := by omega); (try have hy : w.heap.size < w'.heap.size + 1 := by omega); (try have hyy : w.heap.size < w'.heap.size + 1 + 1 := by omega); (try have hz1 : w.heap.size + 1 < w'.heap.size := by omega); (try have hn : ¬ w'.heap.size = w.heap.size := by omega); (try have hn1 : ¬ w'.heap.size = w.heap.size + 1 := by omega); (try have hz2 : w.heap.size + 1 + 1 < w'.heap.size := by omega); (try have hq := Nat.lt_of_lt_of_le (by assumption) hs); (try have hq := Nat.lt_of_succ_le hs); obtain ⟨hc, hf⟩ := bcell hb; (try simp only [World.size_drew, World.cell?_drew, World.frozen?_drew, World.heap_drewN, World.cell?_drewN, World.frozen?_drewN] at hc hf))
    go_ret3
    exact ⟨rfl, by (repeat (first | exact Below.refl _ _ | assumption | (refine Below.drewN ?_ _) | (refine Below.drew ?_) | (refine Below.alloc ?_ (by first | (simp; done) | (simp; omega) | omega) _) | (refine Below.setCell ?_ (by first | (simp; done) | (simp; omega) | omega) _) | (refine Below.trans ?_ (Below.mono (by assumption) (by first | (simp; done) | (simp; omega) | omega)))))⟩
  obtain ⟨r1, r2, r3⟩ := ag_yes c1 hz
  rw [r1, r2, r3]
  by_cases hx : x = 0
  · subst hx
    by_cases hy : y = 0
    · subst hy
      exact iAngC z _ w hS z1 z2 (by omega) (by show _ = _; unfold anLat; simp only [Int.zero_mul, Int.add_zero])
    · exact iAngB y z _ w hS y1 y2 z1 z2 hy (by show _ = _; unfold anLat; simp only [Int.zero_mul, Int.zero_add])
  · exact iAngA x y z _ w hS x1 x2 y1 y2 z1 z2 hx rfl
end Go.Proofs.YtmkmhljiajgibaaGreatDoor
