/-
  Contracts of the functions on dates and moments, over the smaller ones.
-/
import Derived.Deep.RegionHeld3
import Derived.Deep.DrawnRows
import Derived.Test.YtghagmjpcebmjaaDoorTime
namespace Go.Proofs.YtghagmjpcebmjaaDoor
set_option linter.unusedVariables false
set_option linter.unusedSimpArgs false
open Go.RowKit

theorem iDateOf (D : Int) (w : World) :
    Calls Tryd.prog 68 #[.int .i64 D] w fun e w' => e = .returned (.tuple #[.int .i64 (dY D), .int .i64 (dM D), .int .i64 (dD D), .int .i64 (dC D)]) ∧ w = w' := by
  cases c : inB D 0 99999
  · obtain ⟨e1, e2, e3, e4⟩ := date_no c
    rw [e1, e2, e3, e4]; clear e1 e2 e3 e4
    go_enter Tryd.func68, Tryd.ntmps68
    go_wp2_with (go_at_call 60; (with_reducible refine (iWithin _ _ _ _).mono ?_); rintro e w' ⟨rfl, rfl⟩)
    exact bodyPost_ret (v := .tuple #[.int .i64 0, .int .i64 0, .int .i64 0, .int .i64 2]) (by simp [results, Tryd.results68, go_sem]) rfl ⟨rfl, rfl⟩
  · have b := inB_t c
    have key : ∀ y m d : Int, IsDate D y m d → Ending.returned (.tuple #[.int .i64 y, .int .i64 m, .int .i64 d, .int .i64 0]) = Ending.returned (.tuple #[.int .i64 (dY D), .int .i64 (dM D), .int .i64 (dD D), .int .i64 (dC D)]) := by
      intro y m d h
      obtain ⟨e1, e2, e3, e4⟩ := date_eq c h
      rw [e1, e2, e3, e4]
    have K := Lib.hid key
    clear key
    generalize dY D = RY at *
    generalize dM D = RM at *
    generalize dD D = RD at *
    generalize dC D = RC at *
    go_enter Tryd.func68, Tryd.ntmps68
    go_wp2_with (go_at_call 60; (with_reducible refine (iWithin _ _ _ _).mono ?_); rintro e w' ⟨rfl, rfl⟩)
    go_loop [0, 6] (fun t q => ∃ k : Int, 2000 ≤ k ∧ k ≤ 2273 ∧ 0 ≤ D - dby k ∧ t = .int .i64 (D - dby k) ∧ q = .int .i64 k) (fun t _ => (intOf t).toNat)
    case atStart => exact ⟨2000, by omega, by omega, by rw [dby_0]; omega, by rw [dby_0, Int.sub_zero], rfl⟩
    case round =>
      obtain ⟨k, hk1, hk2, hk3, rfl, rfl⟩ := hrel
      have kb := dby_bd k hk1
      have lb := ylen_bd k
      by_cases hlt : ylen k ≤ D - dby k
      · have hs := Lib.hid (dby_succ k hk1)
        have hk4 : k + 1 ≤ 2273 := by
          by_cases g : k + 1 ≤ 2273
          · exact g
          · obtain rfl : k = 2273 := by omega
            have h1 := dby_top
            have h2 := hs.out
            rw [show (2273 : Int) + 1 = 2274 from rfl, h1] at h2
            omega
        go_wp2_with (go_at_call 91; (with_reducible refine (iYlen _ _ (by omega) (by omega)).mono ?_); rintro e w' ⟨rfl, rfl⟩)
        go_round
        case rel => exact ⟨k + 1, by omega, by omega, by rw [hs.out]; omega, val_i (by rw [hs.out]; omega), rfl⟩
        case measure => simp [intOf]; omega
      · go_wp2_with (go_at_call 91; (with_reducible refine (iYlen _ _ (by omega) (by omega)).mono ?_); rintro e w' ⟨rfl, rfl⟩)
        go_loop [0, 7] (fun t q => ∃ j : Int, 1 ≤ j ∧ j ≤ 12 ∧ 0 ≤ D - dby k - cum k j ∧ t = .int .i64 (D - dby k - cum k j) ∧ q = .int .i64 j) (fun t _ => (intOf t).toNat)
        case atStart => exact ⟨1, by omega, by omega, by rw [cum_1]; omega, by rw [cum_1, Int.sub_zero], rfl⟩
        case round =>
          obtain ⟨j, hj1, hj2, hj3, rfl, rfl⟩ := hrel
          have jb := cum_bd k j hj1
          have ml := mlen_bd k j
          by_cases hl2 : mlen k j ≤ D - dby k - cum k j
          · have hs := Lib.hid (cum_succ k j hj1)
            have hj4 : j + 1 ≤ 12 := by
              by_cases g : j + 1 ≤ 12
              · exact g
              · obtain rfl : j = 12 := by omega
                have h1 := cum_13 k
                have h2 := hs.out
                rw [show (12 : Int) + 1 = 13 from rfl, h1] at h2
                omega
            go_wp2_with (go_at_call 92; (with_reducible refine (iMlen _ _ _ (by omega) (by omega) (by omega) (by omega)).mono ?_); rintro e w' ⟨rfl, rfl⟩)
            go_round
            case rel => exact ⟨j + 1, by omega, by omega, by rw [hs.out]; omega, val_i (by rw [hs.out]; omega), rfl⟩
            case measure => simp [intOf]; omega
          · go_wp2_with (go_at_call 92; (with_reducible refine (iMlen _ _ _ (by omega) (by omega) (by omega) (by omega)).mono ?_); rintro e w' ⟨rfl, rfl⟩)
            exact bodyPost_ret (v := .tuple #[.int .i64 k, .int .i64 j, .int .i64 (D - dby k - cum k j + 1), .int .i64 0]) (by simp [results, Tryd.results68, go_sem]) rfl ⟨K.out _ _ _ ⟨hk1, hj1, hj2, by omega, by omega, by omega⟩, rfl⟩
theorem sDate (D : Int) (w : World) (c : inB D 0 99999 = true) :
    Calls Tryd.prog 89 #[.int .i64 D] w fun e w' => e = .returned (.tuple #[.int .i64 (dY D), .int .i64 (dM D), .int .i64 (dD D)]) ∧ w = w' := by
  have b := inB_t c
  have key : ∀ y m d : Int, IsDate D y m d → Ending.returned (.tuple #[.int .i64 y, .int .i64 m, .int .i64 d]) = Ending.returned (.tuple #[.int .i64 (dY D), .int .i64 (dM D), .int .i64 (dD D)]) := by
    intro y m d h
    obtain ⟨e1, e2, e3, e4⟩ := date_eq c h
    rw [e1, e2, e3]
  have K := Lib.hid key
  clear key
  generalize dY D = RY at *
  generalize dM D = RM at *
  generalize dD D = RD at *
  go_enter Tryd.func89, Tryd.ntmps89
  go_wp2
  go_loop [0, 5, 6] (fun t q r => ∃ k j : Int, 2000 ≤ k ∧ k ≤ 2273 ∧ 1 ≤ j ∧ j ≤ 12 ∧ 0 ≤ D - dby k - cum k j ∧ t = .int .i64 (D - dby k - cum k j) ∧ q = .int .i64 k ∧ r = .int .i64 j) (fun t _ _ => (intOf t).toNat)
  case atStart => exact ⟨2000, 1, by omega, by omega, by omega, by omega, by rw [dby_0, cum_1]; omega, by rw [dby_0, cum_1, Int.sub_zero, Int.sub_zero], rfl, rfl⟩
  case round =>
    obtain ⟨k, j, hk1, hk2, hj1, hj2, hj3, rfl, rfl, rfl⟩ := hrel
    have kb := dby_bd k hk1
    have jb := cum_bd k j hj1
    have ml := mlen_bd k j
    by_cases hl2 : mlen k j ≤ D - dby k - cum k j
    · have hs := Lib.hid (cum_succ k j hj1)
      by_cases g : j < 12
      · go_wp2_with (go_at_call 115; (with_reducible refine (sMlen _ _ _ (by omega) (by omega) (by omega) (by omega)).mono ?_); rintro e w' ⟨rfl, rfl⟩)
        go_round
        case rel => exact ⟨k, j + 1, by omega, by omega, by omega, by omega, by rw [hs.out]; omega, val_i (by rw [hs.out]; omega), rfl, rfl⟩
        case measure => simp [intOf]; omega
      · have hj : j = 12 := by omega
        have h1 := cum_13 k
        have h2 := hs.out
        rw [hj, show (12 : Int) + 1 = 13 from rfl, h1, ← hj] at h2
        have h3 := dby_succ k hk1
        have hk4 : k + 1 ≤ 2273 := by
          by_cases g : k + 1 ≤ 2273
          · exact g
          · have e : k = 2273 := by omega
            have h4 := dby_top
            rw [e, show (2273 : Int) + 1 = 2274 from rfl, h4, ← e] at h3
            omega
        have h5 : D - dby k - cum k j - mlen k j = D - dby (k + 1) - cum (k + 1) 1 := by rw [cum_1]; omega
        have H5 := Lib.hid h5
        have h6 : 0 ≤ D - dby k - cum k j - mlen k j := by omega
        clear h1 h2 h3 h5 hs
        have H := Lib.hid hj
        clear hj
        go_wp2_with (go_at_call 115; (with_reducible refine (sMlen _ _ _ (by omega) (by omega) (by omega) (by omega)).mono ?_); rintro e w' ⟨rfl, rfl⟩)
        go_round
        case rel => exact ⟨k + 1, 1, by omega, by omega, by omega, by omega, by rw [← H5.out]; exact h6, val_i H5.out, rfl, rfl⟩
        case measure => simp [intOf]; omega
    · go_wp2_with (go_at_call 115; (with_reducible refine (sMlen _ _ _ (by omega) (by omega) (by omega) (by omega)).mono ?_); rintro e w' ⟨rfl, rfl⟩)
      go_ret3
      exact ⟨K.out _ _ _ ⟨hk1, hj1, hj2, by omega, by omega, by omega⟩, rfl⟩
theorem lEqMoment (d m : Int) (w : World) :
    Calls Tryd.prog 40 #[.agg #[.int .i64 d, .int .i64 m], .agg #[.int .i64 d, .int .i64 m]] w fun e w' => e = .returned (.bool true) ∧ Below w.heap.size w w' := by
  go_enter Tryd.func40, Tryd.ntmps40
  go_wp2
  go_ret
  exact ⟨rfl, by (repeat (first | exact Below.refl _ _ | assumption | (refine Below.drewN ?_ _) | (refine Below.drew ?_) | (refine Below.alloc ?_ (by first | (simp; done) | (simp; omega) | omega) _) | (refine Below.setCell ?_ (by first | (simp; done) | (simp; omega) | omega) _) | (refine Below.trans ?_ (Below.mono (by assumption) (by first | (simp; done) | (simp; omega) | omega)))))⟩
end Go.Proofs.YtghagmjpcebmjaaDoor
