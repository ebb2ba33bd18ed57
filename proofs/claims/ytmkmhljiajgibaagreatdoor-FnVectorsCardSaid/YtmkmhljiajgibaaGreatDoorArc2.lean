/-
  Contracts of the arc of a direction, and what is built on it.
-/
import Derived.Test.YtmkmhljiajgibaaGreatDoorArc
import Derived.Deep.RegionHeld3
import Derived.Deep.DrawnRows
namespace Go.Proofs.YtmkmhljiajgibaaGreatDoor
set_option linter.unusedVariables false
set_option linter.unusedSimpArgs false
open Go.RowKit

theorem uv_bd {u : Int} (hu1 : 0 ≤ u) (hu2 : u ≤ 1000000000000) (m : Int) : -1000000000000000000 ≤ sinI m * u ∧ sinI m * u ≤ 1000000000000000000 ∧ -1000000000000000000 ≤ cosI m * u ∧ cosI m * u ≤ 1000000000000000000 := by
  have h1 := sinI_bd m
  have h2 := cosI_bd m
  have a := mul_bd2 (a := sinI m) (b := u) (c := 1000000) (d := 1000000000000) h1.1 h1.2 (by omega) hu2 (by omega) (by omega)
  have b := mul_bd2 (a := cosI m) (b := u) (c := 1000000) (d := 1000000000000) h2.1 h2.2 (by omega) hu2 (by omega) (by omega)
  omega
theorem iAbsD (x d : Int) (w : World) (h1 : -9223372036854775807 ≤ x) (h2 : x ≤ 9223372036854775807) (h : ab x = d) :
    Calls Tryz.prog 38 #[.int .i64 x] w fun e w' => e = .returned (.int .i64 d) ∧ w = w' := by subst h; exact iAbs x w h1 h2
theorem drewEx {w wr : World} (h : ∃ n, wr = w.drewN n) (k : Nat) : ∃ n, wr.drewN k = w.drewN n := by
  obtain ⟨n, rfl⟩ := h
  exact ⟨n + k, by rw [World.drewN_drewN]⟩
theorem arcB_lo {y x : Int} (h : ab x < ab y) : arcB y x = 90000 - arcLow (ab x) (ab y) := by unfold arcB; rw [if_pos h]
theorem arcB_hi {y x : Int} (h : ¬ ab x < ab y) : arcB y x = arcLow (ab y) (ab x) := by unfold arcB; rw [if_neg h]
theorem ab_bd1 {x : Int} (h1 : -1000000000000 ≤ x) (h2 : x ≤ 1000000000000) : 0 ≤ ab x ∧ ab x ≤ 1000000000000 := by unfold ab; split <;> omega
set_option maxHeartbeats 4000000 in
theorem iArcTanIn (y x : Int) (w : World) (hS : SinesIn w) (c1 : inB x (-1000000000000) 1000000000000 = true) (c2 : inB y (-1000000000000) 1000000000000 = true) (hz : (x == 0) = false ∨ ((x == 0) = true ∧ (y == 0) = false)) (dx dy : Int) (HDX : Hid (ab x = dx)) (HDY : Hid (ab y = dy)) :
    Calls Tryz.prog 22 #[.int .i64 y, .int .i64 x] w fun e w' => e = .returned (.tuple #[.int .i64 (arcF y x), .int .i64 0]) ∧ ∃ n, w' = w.drewN n := by
  have b1 := inB_t c1
  have b2 := inB_t c2
  obtain ⟨a1, a3⟩ := ab_bd1 b1.1 b1.2
  obtain ⟨a2, a4⟩ := ab_bd1 b2.1 b2.2
  rw [HDX.out] at a1 a3
  rw [HDY.out] at a2 a4
  rcases Int.lt_trichotomy dx dy with c | rfl | c
  · obtain ⟨R, hR⟩ : ∃ R, R = bs (atnP (dx) (dy)) 0 45000 := ⟨_, rfl⟩
    have HR : Hid (bs (atnP (dx) (dy)) 0 45000 = R) := hR.symm
    have HB : Hid (arcB y x = 90000 - R) := by rw [hR]; have hx := HDX.out; have hy := HDY.out; rw [arcB_lo (by omega), hx, hy]; rfl
    clear hR
    have eU : min dx dy = dx := by omega
    have eV : max dx dy = dy := by omega
    rcases hz with hx | ⟨hx, hy⟩
    · go_enter Tryz.func22, Tryz.ntmps22
      go_wp2_with (first | (go_at_call 19; (with_reducible refine (iWithin _ _ _ _).mono ?_); rintro e w' ⟨rfl, rfl⟩) | (go_at_call 38; (with_reducible refine (iAbsD _ _ _ (by omega) (by omega) (by first | exact HDX.out | exact HDY.out)).mono ?_); rintro e w' ⟨rfl, rfl⟩))
      go_loopw [10, 11] (fun lo hi wr => ∃ (p q : Int), 0 ≤ p ∧ p ≤ q ∧ q ≤ 45000 ∧ lo = .int .i64 p ∧ hi = .int .i64 q ∧ Hid (bs (atnP (dx) (dy)) p q = R) ∧ Hid (∃ n, wr = w.drewN n) ∧ SinesIn wr) (fun lo hi _ => (intOf hi - intOf lo).toNat)
      case atStart => first | exact ⟨_, _, by omega, by omega, by omega, rfl, rfl, HR, ⟨0, rfl⟩, hS⟩ | exact ⟨_, _, by omega, by omega, by omega, rfl, rfl, HR, ⟨_, rfl⟩, hS.drewN _⟩
      case round =>
        obtain ⟨p, q, h1, h2, h3, rfl, rfl, H4, HW, hSn⟩ := hrel
        by_cases hlt : p < q
        · have hsb := sinI_bd ((p + q) / 2)
          have hcb := cosI_bd ((p + q) / 2)
          obtain ⟨u1, u2, u3, u4⟩ := uv_bd (u := dx) (by omega) (by omega) ((p + q) / 2)
          obtain ⟨v1, v2, v3, v4⟩ := uv_bd (u := dy) (by omega) (by omega) ((p + q) / 2)
          have e1 : IntKind.i64.wrap (sinI ((p + q) / 2) * dy) = sinI ((p + q) / 2) * dy := IntWalk.i64_in _ (by omega)
          have e2 : IntKind.i64.wrap (cosI ((p + q) / 2) * dx) = cosI ((p + q) / 2) * dx := IntWalk.i64_in _ (by omega)
          by_cases hg : cosI ((p + q) / 2) * dx ≤ sinI ((p + q) / 2) * dy
          · have H5 : Hid (bs (atnP (dx) (dy)) p ((p + q) / 2) = R) := by rw [← H4.out]; exact (bs_yes hlt (decide_eq_true hg)).symm
            go_wp2_with (first | (go_at_call 36; (with_reducible refine (iSineOf _ _ (by omega) (by omega) (by first | assumption | exact SinesIn.drewN (by assumption) _)).mono ?_); rintro e w' ⟨rfl, n, rfl⟩) | (go_at_call 34; (with_reducible refine (iCosineOf _ _ (by omega) (by omega) (by first | assumption | exact SinesIn.drewN (by assumption) _)).mono ?_); rintro e w' ⟨rfl, n, rfl⟩))
            go_roundw
            case rel => exact ⟨p, (p + q) / 2, by omega, by omega, by omega, rfl, rfl, H5, by first | exact drewEx (drewEx HW.out _) _ | exact drewEx HW.out _, by first | exact (hSn.drewN _).drewN _ | exact hSn.drewN _⟩
            case measure => simp [intOf]; omega
          · have H5 : Hid (bs (atnP (dx) (dy)) ((p + q) / 2 + 1) q = R) := by rw [← H4.out]; exact (bs_no hlt (by unfold atnP; simpa using hg)).symm
            go_wp2_with (first | (go_at_call 36; (with_reducible refine (iSineOf _ _ (by omega) (by omega) (by first | assumption | exact SinesIn.drewN (by assumption) _)).mono ?_); rintro e w' ⟨rfl, n, rfl⟩) | (go_at_call 34; (with_reducible refine (iCosineOf _ _ (by omega) (by omega) (by first | assumption | exact SinesIn.drewN (by assumption) _)).mono ?_); rintro e w' ⟨rfl, n, rfl⟩))
            go_roundw
            case rel => exact ⟨(p + q) / 2 + 1, q, by omega, by omega, by omega, rfl, rfl, H5, by first | exact drewEx (drewEx HW.out _) _ | exact drewEx HW.out _, by first | exact (hSn.drewN _).drewN _ | exact hSn.drewN _⟩
            case measure => simp [intOf]; omega
        · have H5 : Hid (p = R) := by rw [← H4.out]; exact (bs_end hlt).symm
          have hB : Hid (arcB y x = 90000 - p) := by rw [H5.out]; exact HB.out
          have hF : Hid (arcF y x = if 0 ≤ x ∧ 0 ≤ y then 90000 - p else if 0 ≤ y then 180000 - (90000 - p) else if x < 0 then 180000 + (90000 - p) else (-(90000 - p)) % 360000) := by unfold arcF; rw [hB.out]; rfl
          clear H4
          by_cases x0 : 0 ≤ x <;> by_cases y0 : 0 ≤ y
          · go_wp2_with (go_at_call 25; (with_reducible refine (iNormalAngle _ _ (by omega) (by omega)).mono ?_); rintro e w' ⟨rfl, rfl⟩)
            go_ret2
            exact ⟨ret_ii (by rw [hF.out]; (repeat' split) <;> omega) rfl, HW.out⟩
          · go_wp2_with (go_at_call 25; (with_reducible refine (iNormalAngle _ _ (by omega) (by omega)).mono ?_); rintro e w' ⟨rfl, rfl⟩)
            go_ret2
            exact ⟨ret_ii (by rw [hF.out]; (repeat' split) <;> omega) rfl, HW.out⟩
          · go_wp2_with (go_at_call 25; (with_reducible refine (iNormalAngle _ _ (by omega) (by omega)).mono ?_); rintro e w' ⟨rfl, rfl⟩)
            go_ret2
            exact ⟨ret_ii (by rw [hF.out]; (repeat' split) <;> omega) rfl, HW.out⟩
          · go_wp2_with (go_at_call 25; (with_reducible refine (iNormalAngle _ _ (by omega) (by omega)).mono ?_); rintro e w' ⟨rfl, rfl⟩)
            go_ret2
            exact ⟨ret_ii (by rw [hF.out]; (repeat' split) <;> omega) rfl, HW.out⟩
    · go_enter Tryz.func22, Tryz.ntmps22
      go_wp2_with (first | (go_at_call 19; (with_reducible refine (iWithin _ _ _ _).mono ?_); rintro e w' ⟨rfl, rfl⟩) | (go_at_call 38; (with_reducible refine (iAbsD _ _ _ (by omega) (by omega) (by first | exact HDX.out | exact HDY.out)).mono ?_); rintro e w' ⟨rfl, rfl⟩))
      have HX := Lib.hid hx
      clear hx
      have HY := Lib.hid hy
      clear hy
      go_loopw [10, 11] (fun lo hi wr => ∃ (p q : Int), 0 ≤ p ∧ p ≤ q ∧ q ≤ 45000 ∧ lo = .int .i64 p ∧ hi = .int .i64 q ∧ Hid (bs (atnP (dx) (dy)) p q = R) ∧ Hid (∃ n, wr = w.drewN n) ∧ SinesIn wr) (fun lo hi _ => (intOf hi - intOf lo).toNat)
      case atStart => first | exact ⟨_, _, by omega, by omega, by omega, rfl, rfl, HR, ⟨0, rfl⟩, hS⟩ | exact ⟨_, _, by omega, by omega, by omega, rfl, rfl, HR, ⟨_, rfl⟩, hS.drewN _⟩
      case round =>
        obtain ⟨p, q, h1, h2, h3, rfl, rfl, H4, HW, hSn⟩ := hrel
        by_cases hlt : p < q
        · have hsb := sinI_bd ((p + q) / 2)
          have hcb := cosI_bd ((p + q) / 2)
          obtain ⟨u1, u2, u3, u4⟩ := uv_bd (u := dx) (by omega) (by omega) ((p + q) / 2)
          obtain ⟨v1, v2, v3, v4⟩ := uv_bd (u := dy) (by omega) (by omega) ((p + q) / 2)
          have e1 : IntKind.i64.wrap (sinI ((p + q) / 2) * dy) = sinI ((p + q) / 2) * dy := IntWalk.i64_in _ (by omega)
          have e2 : IntKind.i64.wrap (cosI ((p + q) / 2) * dx) = cosI ((p + q) / 2) * dx := IntWalk.i64_in _ (by omega)
          by_cases hg : cosI ((p + q) / 2) * dx ≤ sinI ((p + q) / 2) * dy
          · have H5 : Hid (bs (atnP (dx) (dy)) p ((p + q) / 2) = R) := by rw [← H4.out]; exact (bs_yes hlt (decide_eq_true hg)).symm
            go_wp2_with (first | (go_at_call 36; (with_reducible refine (iSineOf _ _ (by omega) (by omega) (by first | assumption | exact SinesIn.drewN (by assumption) _)).mono ?_); rintro e w' ⟨rfl, n, rfl⟩) | (go_at_call 34; (with_reducible refine (iCosineOf _ _ (by omega) (by omega) (by first | assumption | exact SinesIn.drewN (by assumption) _)).mono ?_); rintro e w' ⟨rfl, n, rfl⟩))
            go_roundw
            case rel => exact ⟨p, (p + q) / 2, by omega, by omega, by omega, rfl, rfl, H5, by first | exact drewEx (drewEx HW.out _) _ | exact drewEx HW.out _, by first | exact (hSn.drewN _).drewN _ | exact hSn.drewN _⟩
            case measure => simp [intOf]; omega
          · have H5 : Hid (bs (atnP (dx) (dy)) ((p + q) / 2 + 1) q = R) := by rw [← H4.out]; exact (bs_no hlt (by unfold atnP; simpa using hg)).symm
            go_wp2_with (first | (go_at_call 36; (with_reducible refine (iSineOf _ _ (by omega) (by omega) (by first | assumption | exact SinesIn.drewN (by assumption) _)).mono ?_); rintro e w' ⟨rfl, n, rfl⟩) | (go_at_call 34; (with_reducible refine (iCosineOf _ _ (by omega) (by omega) (by first | assumption | exact SinesIn.drewN (by assumption) _)).mono ?_); rintro e w' ⟨rfl, n, rfl⟩))
            go_roundw
            case rel => exact ⟨(p + q) / 2 + 1, q, by omega, by omega, by omega, rfl, rfl, H5, by first | exact drewEx (drewEx HW.out _) _ | exact drewEx HW.out _, by first | exact (hSn.drewN _).drewN _ | exact hSn.drewN _⟩
            case measure => simp [intOf]; omega
        · have H5 : Hid (p = R) := by rw [← H4.out]; exact (bs_end hlt).symm
          have hB : Hid (arcB y x = 90000 - p) := by rw [H5.out]; exact HB.out
          have hF : Hid (arcF y x = if 0 ≤ x ∧ 0 ≤ y then 90000 - p else if 0 ≤ y then 180000 - (90000 - p) else if x < 0 then 180000 + (90000 - p) else (-(90000 - p)) % 360000) := by unfold arcF; rw [hB.out]; rfl
          clear H4
          by_cases x0 : 0 ≤ x <;> by_cases y0 : 0 ≤ y
          · go_wp2_with (go_at_call 25; (with_reducible refine (iNormalAngle _ _ (by omega) (by omega)).mono ?_); rintro e w' ⟨rfl, rfl⟩)
            go_ret2
            exact ⟨ret_ii (by rw [hF.out]; (repeat' split) <;> omega) rfl, HW.out⟩
          · go_wp2_with (go_at_call 25; (with_reducible refine (iNormalAngle _ _ (by omega) (by omega)).mono ?_); rintro e w' ⟨rfl, rfl⟩)
            go_ret2
            exact ⟨ret_ii (by rw [hF.out]; (repeat' split) <;> omega) rfl, HW.out⟩
          · go_wp2_with (go_at_call 25; (with_reducible refine (iNormalAngle _ _ (by omega) (by omega)).mono ?_); rintro e w' ⟨rfl, rfl⟩)
            go_ret2
            exact ⟨ret_ii (by rw [hF.out]; (repeat' split) <;> omega) rfl, HW.out⟩
          · go_wp2_with (go_at_call 25; (with_reducible refine (iNormalAngle _ _ (by omega) (by omega)).mono ?_); rintro e w' ⟨rfl, rfl⟩)
            go_ret2
            exact ⟨ret_ii (by rw [hF.out]; (repeat' split) <;> omega) rfl, HW.out⟩
  · obtain ⟨R, hR⟩ : ∃ R, R = bs (atnP (dx) (dx)) 0 45000 := ⟨_, rfl⟩
    have HR : Hid (bs (atnP (dx) (dx)) 0 45000 = R) := hR.symm
    have HB : Hid (arcB y x = R) := by rw [hR]; have hx := HDX.out; have hy := HDY.out; rw [arcB_hi (by omega), hx, hy]; rfl
    clear hR
    rcases hz with hx | ⟨hx, hy⟩
    · go_enter Tryz.func22, Tryz.ntmps22
      go_wp2_with (first | (go_at_call 19; (with_reducible refine (iWithin _ _ _ _).mono ?_); rintro e w' ⟨rfl, rfl⟩) | (go_at_call 38; (with_reducible refine (iAbsD _ _ _ (by omega) (by omega) (by first | exact HDX.out | exact HDY.out)).mono ?_); rintro e w' ⟨rfl, rfl⟩))
      go_loopw [10, 11] (fun lo hi wr => ∃ (p q : Int), 0 ≤ p ∧ p ≤ q ∧ q ≤ 45000 ∧ lo = .int .i64 p ∧ hi = .int .i64 q ∧ Hid (bs (atnP (dx) (dx)) p q = R) ∧ Hid (∃ n, wr = w.drewN n) ∧ SinesIn wr) (fun lo hi _ => (intOf hi - intOf lo).toNat)
      case atStart => first | exact ⟨_, _, by omega, by omega, by omega, rfl, rfl, HR, ⟨0, rfl⟩, hS⟩ | exact ⟨_, _, by omega, by omega, by omega, rfl, rfl, HR, ⟨_, rfl⟩, hS.drewN _⟩
      case round =>
        obtain ⟨p, q, h1, h2, h3, rfl, rfl, H4, HW, hSn⟩ := hrel
        by_cases hlt : p < q
        · have hsb := sinI_bd ((p + q) / 2)
          have hcb := cosI_bd ((p + q) / 2)
          obtain ⟨u1, u2, u3, u4⟩ := uv_bd (u := dx) (by omega) (by omega) ((p + q) / 2)
          obtain ⟨v1, v2, v3, v4⟩ := uv_bd (u := dx) (by omega) (by omega) ((p + q) / 2)
          have e1 : IntKind.i64.wrap (sinI ((p + q) / 2) * dx) = sinI ((p + q) / 2) * dx := IntWalk.i64_in _ (by omega)
          have e2 : IntKind.i64.wrap (cosI ((p + q) / 2) * dx) = cosI ((p + q) / 2) * dx := IntWalk.i64_in _ (by omega)
          by_cases hg : cosI ((p + q) / 2) * dx ≤ sinI ((p + q) / 2) * dx
          · have H5 : Hid (bs (atnP (dx) (dx)) p ((p + q) / 2) = R) := by rw [← H4.out]; exact (bs_yes hlt (decide_eq_true hg)).symm
            go_wp2_with (first | (go_at_call 36; (with_reducible refine (iSineOf _ _ (by omega) (by omega) (by first | assumption | exact SinesIn.drewN (by assumption) _)).mono ?_); rintro e w' ⟨rfl, n, rfl⟩) | (go_at_call 34; (with_reducible refine (iCosineOf _ _ (by omega) (by omega) (by first | assumption | exact SinesIn.drewN (by assumption) _)).mono ?_); rintro e w' ⟨rfl, n, rfl⟩))
            go_roundw
            case rel => exact ⟨p, (p + q) / 2, by omega, by omega, by omega, rfl, rfl, H5, by first | exact drewEx (drewEx HW.out _) _ | exact drewEx HW.out _, by first | exact (hSn.drewN _).drewN _ | exact hSn.drewN _⟩
            case measure => simp [intOf]; omega
          · have H5 : Hid (bs (atnP (dx) (dx)) ((p + q) / 2 + 1) q = R) := by rw [← H4.out]; exact (bs_no hlt (by unfold atnP; simpa using hg)).symm
            go_wp2_with (first | (go_at_call 36; (with_reducible refine (iSineOf _ _ (by omega) (by omega) (by first | assumption | exact SinesIn.drewN (by assumption) _)).mono ?_); rintro e w' ⟨rfl, n, rfl⟩) | (go_at_call 34; (with_reducible refine (iCosineOf _ _ (by omega) (by omega) (by first | assumption | exact SinesIn.drewN (by assumption) _)).mono ?_); rintro e w' ⟨rfl, n, rfl⟩))
            go_roundw
            case rel => exact ⟨(p + q) / 2 + 1, q, by omega, by omega, by omega, rfl, rfl, H5, by first | exact drewEx (drewEx HW.out _) _ | exact drewEx HW.out _, by first | exact (hSn.drewN _).drewN _ | exact hSn.drewN _⟩
            case measure => simp [intOf]; omega
        · have H5 : Hid (p = R) := by rw [← H4.out]; exact (bs_end hlt).symm
          have hB : Hid (arcB y x = p) := by rw [H5.out]; exact HB.out
          have hF : Hid (arcF y x = if 0 ≤ x ∧ 0 ≤ y then p else if 0 ≤ y then 180000 - (p) else if x < 0 then 180000 + (p) else (-(p)) % 360000) := by unfold arcF; rw [hB.out]; rfl
          clear H4
          by_cases x0 : 0 ≤ x <;> by_cases y0 : 0 ≤ y
          · go_wp2_with (go_at_call 25; (with_reducible refine (iNormalAngle _ _ (by omega) (by omega)).mono ?_); rintro e w' ⟨rfl, rfl⟩)
            go_ret2
            exact ⟨ret_ii (by rw [hF.out]; (repeat' split) <;> omega) rfl, HW.out⟩
          · go_wp2_with (go_at_call 25; (with_reducible refine (iNormalAngle _ _ (by omega) (by omega)).mono ?_); rintro e w' ⟨rfl, rfl⟩)
            go_ret2
            exact ⟨ret_ii (by rw [hF.out]; (repeat' split) <;> omega) rfl, HW.out⟩
          · go_wp2_with (go_at_call 25; (with_reducible refine (iNormalAngle _ _ (by omega) (by omega)).mono ?_); rintro e w' ⟨rfl, rfl⟩)
            go_ret2
            exact ⟨ret_ii (by rw [hF.out]; (repeat' split) <;> omega) rfl, HW.out⟩
          · go_wp2_with (go_at_call 25; (with_reducible refine (iNormalAngle _ _ (by omega) (by omega)).mono ?_); rintro e w' ⟨rfl, rfl⟩)
            go_ret2
            exact ⟨ret_ii (by rw [hF.out]; (repeat' split) <;> omega) rfl, HW.out⟩
    · go_enter Tryz.func22, Tryz.ntmps22
      go_wp2_with (first | (go_at_call 19; (with_reducible refine (iWithin _ _ _ _).mono ?_); rintro e w' ⟨rfl, rfl⟩) | (go_at_call 38; (with_reducible refine (iAbsD _ _ _ (by omega) (by omega) (by first | exact HDX.out | exact HDY.out)).mono ?_); rintro e w' ⟨rfl, rfl⟩))
      have HX := Lib.hid hx
      clear hx
      have HY := Lib.hid hy
      clear hy
      go_loopw [10, 11] (fun lo hi wr => ∃ (p q : Int), 0 ≤ p ∧ p ≤ q ∧ q ≤ 45000 ∧ lo = .int .i64 p ∧ hi = .int .i64 q ∧ Hid (bs (atnP (dx) (dx)) p q = R) ∧ Hid (∃ n, wr = w.drewN n) ∧ SinesIn wr) (fun lo hi _ => (intOf hi - intOf lo).toNat)
      case atStart => first | exact ⟨_, _, by omega, by omega, by omega, rfl, rfl, HR, ⟨0, rfl⟩, hS⟩ | exact ⟨_, _, by omega, by omega, by omega, rfl, rfl, HR, ⟨_, rfl⟩, hS.drewN _⟩
      case round =>
        obtain ⟨p, q, h1, h2, h3, rfl, rfl, H4, HW, hSn⟩ := hrel
        by_cases hlt : p < q
        · have hsb := sinI_bd ((p + q) / 2)
          have hcb := cosI_bd ((p + q) / 2)
          obtain ⟨u1, u2, u3, u4⟩ := uv_bd (u := dx) (by omega) (by omega) ((p + q) / 2)
          obtain ⟨v1, v2, v3, v4⟩ := uv_bd (u := dx) (by omega) (by omega) ((p + q) / 2)
          have e1 : IntKind.i64.wrap (sinI ((p + q) / 2) * dx) = sinI ((p + q) / 2) * dx := IntWalk.i64_in _ (by omega)
          have e2 : IntKind.i64.wrap (cosI ((p + q) / 2) * dx) = cosI ((p + q) / 2) * dx := IntWalk.i64_in _ (by omega)
          by_cases hg : cosI ((p + q) / 2) * dx ≤ sinI ((p + q) / 2) * dx
          · have H5 : Hid (bs (atnP (dx) (dx)) p ((p + q) / 2) = R) := by rw [← H4.out]; exact (bs_yes hlt (decide_eq_true hg)).symm
            go_wp2_with (first | (go_at_call 36; (with_reducible refine (iSineOf _ _ (by omega) (by omega) (by first | assumption | exact SinesIn.drewN (by assumption) _)).mono ?_); rintro e w' ⟨rfl, n, rfl⟩) | (go_at_call 34; (with_reducible refine (iCosineOf _ _ (by omega) (by omega) (by first | assumption | exact SinesIn.drewN (by assumption) _)).mono ?_); rintro e w' ⟨rfl, n, rfl⟩))
            go_roundw
            case rel => exact ⟨p, (p + q) / 2, by omega, by omega, by omega, rfl, rfl, H5, by first | exact drewEx (drewEx HW.out _) _ | exact drewEx HW.out _, by first | exact (hSn.drewN _).drewN _ | exact hSn.drewN _⟩
            case measure => simp [intOf]; omega
          · have H5 : Hid (bs (atnP (dx) (dx)) ((p + q) / 2 + 1) q = R) := by rw [← H4.out]; exact (bs_no hlt (by unfold atnP; simpa using hg)).symm
            go_wp2_with (first | (go_at_call 36; (with_reducible refine (iSineOf _ _ (by omega) (by omega) (by first | assumption | exact SinesIn.drewN (by assumption) _)).mono ?_); rintro e w' ⟨rfl, n, rfl⟩) | (go_at_call 34; (with_reducible refine (iCosineOf _ _ (by omega) (by omega) (by first | assumption | exact SinesIn.drewN (by assumption) _)).mono ?_); rintro e w' ⟨rfl, n, rfl⟩))
            go_roundw
            case rel => exact ⟨(p + q) / 2 + 1, q, by omega, by omega, by omega, rfl, rfl, H5, by first | exact drewEx (drewEx HW.out _) _ | exact drewEx HW.out _, by first | exact (hSn.drewN _).drewN _ | exact hSn.drewN _⟩
            case measure => simp [intOf]; omega
        · have H5 : Hid (p = R) := by rw [← H4.out]; exact (bs_end hlt).symm
          have hB : Hid (arcB y x = p) := by rw [H5.out]; exact HB.out
          have hF : Hid (arcF y x = if 0 ≤ x ∧ 0 ≤ y then p else if 0 ≤ y then 180000 - (p) else if x < 0 then 180000 + (p) else (-(p)) % 360000) := by unfold arcF; rw [hB.out]; rfl
          clear H4
          by_cases x0 : 0 ≤ x <;> by_cases y0 : 0 ≤ y
          · go_wp2_with (go_at_call 25; (with_reducible refine (iNormalAngle _ _ (by omega) (by omega)).mono ?_); rintro e w' ⟨rfl, rfl⟩)
            go_ret2
            exact ⟨ret_ii (by rw [hF.out]; (repeat' split) <;> omega) rfl, HW.out⟩
          · go_wp2_with (go_at_call 25; (with_reducible refine (iNormalAngle _ _ (by omega) (by omega)).mono ?_); rintro e w' ⟨rfl, rfl⟩)
            go_ret2
            exact ⟨ret_ii (by rw [hF.out]; (repeat' split) <;> omega) rfl, HW.out⟩
          · go_wp2_with (go_at_call 25; (with_reducible refine (iNormalAngle _ _ (by omega) (by omega)).mono ?_); rintro e w' ⟨rfl, rfl⟩)
            go_ret2
            exact ⟨ret_ii (by rw [hF.out]; (repeat' split) <;> omega) rfl, HW.out⟩
          · go_wp2_with (go_at_call 25; (with_reducible refine (iNormalAngle _ _ (by omega) (by omega)).mono ?_); rintro e w' ⟨rfl, rfl⟩)
            go_ret2
            exact ⟨ret_ii (by rw [hF.out]; (repeat' split) <;> omega) rfl, HW.out⟩
  · obtain ⟨R, hR⟩ : ∃ R, R = bs (atnP (dy) (dx)) 0 45000 := ⟨_, rfl⟩
    have HR : Hid (bs (atnP (dy) (dx)) 0 45000 = R) := hR.symm
    have HB : Hid (arcB y x = R) := by rw [hR]; have hx := HDX.out; have hy := HDY.out; rw [arcB_hi (by omega), hx, hy]; rfl
    clear hR
    have eU : min dx dy = dy := by omega
    have eV : max dx dy = dx := by omega
    rcases hz with hx | ⟨hx, hy⟩
    · go_enter Tryz.func22, Tryz.ntmps22
      go_wp2_with (first | (go_at_call 19; (with_reducible refine (iWithin _ _ _ _).mono ?_); rintro e w' ⟨rfl, rfl⟩) | (go_at_call 38; (with_reducible refine (iAbsD _ _ _ (by omega) (by omega) (by first | exact HDX.out | exact HDY.out)).mono ?_); rintro e w' ⟨rfl, rfl⟩))
      go_loopw [10, 11] (fun lo hi wr => ∃ (p q : Int), 0 ≤ p ∧ p ≤ q ∧ q ≤ 45000 ∧ lo = .int .i64 p ∧ hi = .int .i64 q ∧ Hid (bs (atnP (dy) (dx)) p q = R) ∧ Hid (∃ n, wr = w.drewN n) ∧ SinesIn wr) (fun lo hi _ => (intOf hi - intOf lo).toNat)
      case atStart => first | exact ⟨_, _, by omega, by omega, by omega, rfl, rfl, HR, ⟨0, rfl⟩, hS⟩ | exact ⟨_, _, by omega, by omega, by omega, rfl, rfl, HR, ⟨_, rfl⟩, hS.drewN _⟩
      case round =>
        obtain ⟨p, q, h1, h2, h3, rfl, rfl, H4, HW, hSn⟩ := hrel
        by_cases hlt : p < q
        · have hsb := sinI_bd ((p + q) / 2)
          have hcb := cosI_bd ((p + q) / 2)
          obtain ⟨u1, u2, u3, u4⟩ := uv_bd (u := dy) (by omega) (by omega) ((p + q) / 2)
          obtain ⟨v1, v2, v3, v4⟩ := uv_bd (u := dx) (by omega) (by omega) ((p + q) / 2)
          have e1 : IntKind.i64.wrap (sinI ((p + q) / 2) * dx) = sinI ((p + q) / 2) * dx := IntWalk.i64_in _ (by omega)
          have e2 : IntKind.i64.wrap (cosI ((p + q) / 2) * dy) = cosI ((p + q) / 2) * dy := IntWalk.i64_in _ (by omega)
          by_cases hg : cosI ((p + q) / 2) * dy ≤ sinI ((p + q) / 2) * dx
          · have H5 : Hid (bs (atnP (dy) (dx)) p ((p + q) / 2) = R) := by rw [← H4.out]; exact (bs_yes hlt (decide_eq_true hg)).symm
            go_wp2_with (first | (go_at_call 36; (with_reducible refine (iSineOf _ _ (by omega) (by omega) (by first | assumption | exact SinesIn.drewN (by assumption) _)).mono ?_); rintro e w' ⟨rfl, n, rfl⟩) | (go_at_call 34; (with_reducible refine (iCosineOf _ _ (by omega) (by omega) (by first | assumption | exact SinesIn.drewN (by assumption) _)).mono ?_); rintro e w' ⟨rfl, n, rfl⟩))
            go_roundw
            case rel => exact ⟨p, (p + q) / 2, by omega, by omega, by omega, rfl, rfl, H5, by first | exact drewEx (drewEx HW.out _) _ | exact drewEx HW.out _, by first | exact (hSn.drewN _).drewN _ | exact hSn.drewN _⟩
            case measure => simp [intOf]; omega
          · have H5 : Hid (bs (atnP (dy) (dx)) ((p + q) / 2 + 1) q = R) := by rw [← H4.out]; exact (bs_no hlt (by unfold atnP; simpa using hg)).symm
            go_wp2_with (first | (go_at_call 36; (with_reducible refine (iSineOf _ _ (by omega) (by omega) (by first | assumption | exact SinesIn.drewN (by assumption) _)).mono ?_); rintro e w' ⟨rfl, n, rfl⟩) | (go_at_call 34; (with_reducible refine (iCosineOf _ _ (by omega) (by omega) (by first | assumption | exact SinesIn.drewN (by assumption) _)).mono ?_); rintro e w' ⟨rfl, n, rfl⟩))
            go_roundw
            case rel => exact ⟨(p + q) / 2 + 1, q, by omega, by omega, by omega, rfl, rfl, H5, by first | exact drewEx (drewEx HW.out _) _ | exact drewEx HW.out _, by first | exact (hSn.drewN _).drewN _ | exact hSn.drewN _⟩
            case measure => simp [intOf]; omega
        · have H5 : Hid (p = R) := by rw [← H4.out]; exact (bs_end hlt).symm
          have hB : Hid (arcB y x = p) := by rw [H5.out]; exact HB.out
          have hF : Hid (arcF y x = if 0 ≤ x ∧ 0 ≤ y then p else if 0 ≤ y then 180000 - (p) else if x < 0 then 180000 + (p) else (-(p)) % 360000) := by unfold arcF; rw [hB.out]; rfl
          clear H4
          by_cases x0 : 0 ≤ x <;> by_cases y0 : 0 ≤ y
          · go_wp2_with (go_at_call 25; (with_reducible refine (iNormalAngle _ _ (by omega) (by omega)).mono ?_); rintro e w' ⟨rfl, rfl⟩)
            go_ret2
            exact ⟨ret_ii (by rw [hF.out]; (repeat' split) <;> omega) rfl, HW.out⟩
          · go_wp2_with (go_at_call 25; (with_reducible refine (iNormalAngle _ _ (by omega) (by omega)).mono ?_); rintro e w' ⟨rfl, rfl⟩)
            go_ret2
            exact ⟨ret_ii (by rw [hF.out]; (repeat' split) <;> omega) rfl, HW.out⟩
          · go_wp2_with (go_at_call 25; (with_reducible refine (iNormalAngle _ _ (by omega) (by omega)).mono ?_); rintro e w' ⟨rfl, rfl⟩)
            go_ret2
            exact ⟨ret_ii (by rw [hF.out]; (repeat' split) <;> omega) rfl, HW.out⟩
          · go_wp2_with (go_at_call 25; (with_reducible refine (iNormalAngle _ _ (by omega) (by omega)).mono ?_); rintro e w' ⟨rfl, rfl⟩)
            go_ret2
            exact ⟨ret_ii (by rw [hF.out]; (repeat' split) <;> omega) rfl, HW.out⟩
    · go_enter Tryz.func22, Tryz.ntmps22
      go_wp2_with (first | (go_at_call 19; (with_reducible refine (iWithin _ _ _ _).mono ?_); rintro e w' ⟨rfl, rfl⟩) | (go_at_call 38; (with_reducible refine (iAbsD _ _ _ (by omega) (by omega) (by first | exact HDX.out | exact HDY.out)).mono ?_); rintro e w' ⟨rfl, rfl⟩))
      have HX := Lib.hid hx
      clear hx
      have HY := Lib.hid hy
      clear hy
      go_loopw [10, 11] (fun lo hi wr => ∃ (p q : Int), 0 ≤ p ∧ p ≤ q ∧ q ≤ 45000 ∧ lo = .int .i64 p ∧ hi = .int .i64 q ∧ Hid (bs (atnP (dy) (dx)) p q = R) ∧ Hid (∃ n, wr = w.drewN n) ∧ SinesIn wr) (fun lo hi _ => (intOf hi - intOf lo).toNat)
      case atStart => first | exact ⟨_, _, by omega, by omega, by omega, rfl, rfl, HR, ⟨0, rfl⟩, hS⟩ | exact ⟨_, _, by omega, by omega, by omega, rfl, rfl, HR, ⟨_, rfl⟩, hS.drewN _⟩
      case round =>
        obtain ⟨p, q, h1, h2, h3, rfl, rfl, H4, HW, hSn⟩ := hrel
        by_cases hlt : p < q
        · have hsb := sinI_bd ((p + q) / 2)
          have hcb := cosI_bd ((p + q) / 2)
          obtain ⟨u1, u2, u3, u4⟩ := uv_bd (u := dy) (by omega) (by omega) ((p + q) / 2)
          obtain ⟨v1, v2, v3, v4⟩ := uv_bd (u := dx) (by omega) (by omega) ((p + q) / 2)
          have e1 : IntKind.i64.wrap (sinI ((p + q) / 2) * dx) = sinI ((p + q) / 2) * dx := IntWalk.i64_in _ (by omega)
          have e2 : IntKind.i64.wrap (cosI ((p + q) / 2) * dy) = cosI ((p + q) / 2) * dy := IntWalk.i64_in _ (by omega)
          by_cases hg : cosI ((p + q) / 2) * dy ≤ sinI ((p + q) / 2) * dx
          · have H5 : Hid (bs (atnP (dy) (dx)) p ((p + q) / 2) = R) := by rw [← H4.out]; exact (bs_yes hlt (decide_eq_true hg)).symm
            go_wp2_with (first | (go_at_call 36; (with_reducible refine (iSineOf _ _ (by omega) (by omega) (by first | assumption | exact SinesIn.drewN (by assumption) _)).mono ?_); rintro e w' ⟨rfl, n, rfl⟩) | (go_at_call 34; (with_reducible refine (iCosineOf _ _ (by omega) (by omega) (by first | assumption | exact SinesIn.drewN (by assumption) _)).mono ?_); rintro e w' ⟨rfl, n, rfl⟩))
            go_roundw
            case rel => exact ⟨p, (p + q) / 2, by omega, by omega, by omega, rfl, rfl, H5, by first | exact drewEx (drewEx HW.out _) _ | exact drewEx HW.out _, by first | exact (hSn.drewN _).drewN _ | exact hSn.drewN _⟩
            case measure => simp [intOf]; omega
          · have H5 : Hid (bs (atnP (dy) (dx)) ((p + q) / 2 + 1) q = R) := by rw [← H4.out]; exact (bs_no hlt (by unfold atnP; simpa using hg)).symm
            go_wp2_with (first | (go_at_call 36; (with_reducible refine (iSineOf _ _ (by omega) (by omega) (by first | assumption | exact SinesIn.drewN (by assumption) _)).mono ?_); rintro e w' ⟨rfl, n, rfl⟩) | (go_at_call 34; (with_reducible refine (iCosineOf _ _ (by omega) (by omega) (by first | assumption | exact SinesIn.drewN (by assumption) _)).mono ?_); rintro e w' ⟨rfl, n, rfl⟩))
            go_roundw
            case rel => exact ⟨(p + q) / 2 + 1, q, by omega, by omega, by omega, rfl, rfl, H5, by first | exact drewEx (drewEx HW.out _) _ | exact drewEx HW.out _, by first | exact (hSn.drewN _).drewN _ | exact hSn.drewN _⟩
            case measure => simp [intOf]; omega
        · have H5 : Hid (p = R) := by rw [← H4.out]; exact (bs_end hlt).symm
          have hB : Hid (arcB y x = p) := by rw [H5.out]; exact HB.out
          have hF : Hid (arcF y x = if 0 ≤ x ∧ 0 ≤ y then p else if 0 ≤ y then 180000 - (p) else if x < 0 then 180000 + (p) else (-(p)) % 360000) := by unfold arcF; rw [hB.out]; rfl
          clear H4
          by_cases x0 : 0 ≤ x <;> by_cases y0 : 0 ≤ y
          · go_wp2_with (go_at_call 25; (with_reducible refine (iNormalAngle _ _ (by omega) (by omega)).mono ?_); rintro e w' ⟨rfl, rfl⟩)
            go_ret2
            exact ⟨ret_ii (by rw [hF.out]; (repeat' split) <;> omega) rfl, HW.out⟩
          · go_wp2_with (go_at_call 25; (with_reducible refine (iNormalAngle _ _ (by omega) (by omega)).mono ?_); rintro e w' ⟨rfl, rfl⟩)
            go_ret2
            exact ⟨ret_ii (by rw [hF.out]; (repeat' split) <;> omega) rfl, HW.out⟩
          · go_wp2_with (go_at_call 25; (with_reducible refine (iNormalAngle _ _ (by omega) (by omega)).mono ?_); rintro e w' ⟨rfl, rfl⟩)
            go_ret2
            exact ⟨ret_ii (by rw [hF.out]; (repeat' split) <;> omega) rfl, HW.out⟩
          · go_wp2_with (go_at_call 25; (with_reducible refine (iNormalAngle _ _ (by omega) (by omega)).mono ?_); rintro e w' ⟨rfl, rfl⟩)
            go_ret2
            exact ⟨ret_ii (by rw [hF.out]; (repeat' split) <;> omega) rfl, HW.out⟩
theorem iArcTangent (y x : Int) (w : World) (hS : SinesIn w) :
    Calls Tryz.prog 22 #[.int .i64 y, .int .i64 x] w fun e w' => e = .returned (.tuple #[.int .i64 (atA y x), .int .i64 (atC y x)]) ∧ ∃ n, w' = w.drewN n := by
  unfold atA atC atB
  cases c1 : inB x (-1000000000000) 1000000000000
  · go_enter Tryz.func22, Tryz.ntmps22
    go_wp2_with (go_at_call 19; (with_reducible refine (iWithin _ _ _ _).mono ?_); rintro e w' ⟨rfl, rfl⟩)
    go_ret2
    exact ⟨rfl, 0, rfl⟩
  cases c2 : inB y (-1000000000000) 1000000000000
  · go_enter Tryz.func22, Tryz.ntmps22
    go_wp2_with (go_at_call 19; (with_reducible refine (iWithin _ _ _ _).mono ?_); rintro e w' ⟨rfl, rfl⟩)
    go_ret2
    exact ⟨rfl, 0, rfl⟩
  cases hx : (x == 0)
  · exact iArcTanIn y x w hS c1 c2 (.inl hx) _ _ rfl rfl
  cases hy : (y == 0)
  · exact iArcTanIn y x w hS c1 c2 (.inr ⟨hx, hy⟩) _ _ rfl rfl
  go_enter Tryz.func22, Tryz.ntmps22
  go_wp2_with (go_at_call 19; (with_reducible refine (iWithin _ _ _ _).mono ?_); rintro e w' ⟨rfl, rfl⟩)
  go_ret2
  exact ⟨rfl, 0, rfl⟩
end Go.Proofs.YtmkmhljiajgibaaGreatDoor
