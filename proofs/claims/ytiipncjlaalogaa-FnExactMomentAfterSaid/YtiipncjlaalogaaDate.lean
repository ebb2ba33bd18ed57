/-
  Contracts of the functions on dates and moments, over the smaller ones.
-/
import Derived.Test.YtiipncjlaalogaaTime
namespace Go.Proofs.Ytiipncjlaalogaa
set_option linter.unusedVariables false
set_option linter.unusedSimpArgs false
open Go.RowKit

theorem iDateOf (D : Int) (w : World) :
    Calls Try.prog 35 #[.int .i64 D] w fun e w' => e = .returned (.tuple #[.int .i64 (dY D), .int .i64 (dM D), .int .i64 (dD D), .int .i64 (dC D)]) ∧ w = w' := by
  cases c : inB D 0 99999
  · obtain ⟨e1, e2, e3, e4⟩ := date_no c
    rw [e1, e2, e3, e4]; clear e1 e2 e3 e4
    go_enter Try.func35, Try.ntmps35
    go_wp2_with (go_at_call 46; (with_reducible refine (iWithin _ _ _ _).mono ?_); rintro e w' ⟨rfl, rfl⟩)
    exact bodyPost_ret (v := .tuple #[.int .i64 0, .int .i64 0, .int .i64 0, .int .i64 2]) (by simp [results, Try.results35, go_sem]) rfl ⟨rfl, rfl⟩
  · have b := inB_t c
    have key : ∀ y m d : Int, IsDate D y m d → Ending.returned (.tuple #[.int .i64 y, .int .i64 m, .int .i64 d, .int .i64 0]) = Ending.returned (.tuple #[.int .i64 (dY D), .int .i64 (dM D), .int .i64 (dD D), .int .i64 (dC D)]) := by
      intro y m d h
      obtain ⟨e1, e2, e3, e4⟩ := date_eq c h
      rw [e1, e2, e3, e4]
    have K := Lib.hid key
    clear key
    generalize dY D = RY at *
    generalize dM D = RM at *
    generalize dD D = RD at *
    generalize dC D = RC at *
    go_enter Try.func35, Try.ntmps35
    go_wp2_with (go_at_call 46; (with_reducible refine (iWithin _ _ _ _).mono ?_); rintro e w' ⟨rfl, rfl⟩)
    go_loop [0, 6] (fun t q => ∃ k : Int, 2000 ≤ k ∧ k ≤ 2273 ∧ 0 ≤ D - dby k ∧ t = .int .i64 (D - dby k) ∧ q = .int .i64 k) (fun t _ => (intOf t).toNat)
    case atStart => exact ⟨2000, by omega, by omega, by rw [dby_0]; omega, by rw [dby_0, Int.sub_zero], rfl⟩
    case round =>
      obtain ⟨k, hk1, hk2, hk3, rfl, rfl⟩ := hrel
      have kb := dby_bd k hk1
      have lb := ylen_bd k
      by_cases hlt : ylen k ≤ D - dby k
      · have hs := Lib.hid (dby_succ k hk1)
        have hk4 : k + 1 ≤ 2273 := by
          by_cases g : k + 1 ≤ 2273
          · exact g
          · obtain rfl : k = 2273 := by omega
            have h1 := dby_top
            have h2 := hs.out
            rw [show (2273 : Int) + 1 = 2274 from rfl, h1] at h2
            omega
        go_wp2_with (go_at_call 73; (with_reducible refine (iYlen _ _ (by omega) (by omega)).mono ?_); rintro e w' ⟨rfl, rfl⟩)
        go_round
        case rel => exact ⟨k + 1, by omega, by omega, by rw [hs.out]; omega, val_i (by rw [hs.out]; omega), rfl⟩
        case measure => simp [intOf]; omega
      · go_wp2_with (go_at_call 73; (with_reducible refine (iYlen _ _ (by omega) (by omega)).mono ?_); rintro e w' ⟨rfl, rfl⟩)
        go_loop [0, 7] (fun t q => ∃ j : Int, 1 ≤ j ∧ j ≤ 12 ∧ 0 ≤ D - dby k - cum k j ∧ t = .int .i64 (D - dby k - cum k j) ∧ q = .int .i64 j) (fun t _ => (intOf t).toNat)
        case atStart => exact ⟨1, by omega, by omega, by rw [cum_1]; omega, by rw [cum_1, Int.sub_zero], rfl⟩
        case round =>
          obtain ⟨j, hj1, hj2, hj3, rfl, rfl⟩ := hrel
          have jb := cum_bd k j hj1
          have ml := mlen_bd k j
          by_cases hl2 : mlen k j ≤ D - dby k - cum k j
          · have hs := Lib.hid (cum_succ k j hj1)
            have hj4 : j + 1 ≤ 12 := by
              by_cases g : j + 1 ≤ 12
              · exact g
              · obtain rfl : j = 12 := by omega
                have h1 := cum_13 k
                have h2 := hs.out
                rw [show (12 : Int) + 1 = 13 from rfl, h1] at h2
                omega
            go_wp2_with (go_at_call 51; (with_reducible refine (iMlen _ _ _ (by omega) (by omega) (by omega) (by omega)).mono ?_); rintro e w' ⟨rfl, rfl⟩)
            go_round
            case rel => exact ⟨j + 1, by omega, by omega, by rw [hs.out]; omega, val_i (by rw [hs.out]; omega), rfl⟩
            case measure => simp [intOf]; omega
          · go_wp2_with (go_at_call 51; (with_reducible refine (iMlen _ _ _ (by omega) (by omega) (by omega) (by omega)).mono ?_); rintro e w' ⟨rfl, rfl⟩)
            exact bodyPost_ret (v := .tuple #[.int .i64 k, .int .i64 j, .int .i64 (D - dby k - cum k j + 1), .int .i64 0]) (by simp [results, Try.results35, go_sem]) rfl ⟨K.out _ _ _ ⟨hk1, hj1, hj2, by omega, by omega, by omega⟩, rfl⟩
theorem sDate (D : Int) (w : World) (c : inB D 0 99999 = true) :
    Calls Try.prog 72 #[.int .i64 D] w fun e w' => e = .returned (.tuple #[.int .i64 (dY D), .int .i64 (dM D), .int .i64 (dD D)]) ∧ w = w' := by
  have b := inB_t c
  have key : ∀ y m d : Int, IsDate D y m d → Ending.returned (.tuple #[.int .i64 y, .int .i64 m, .int .i64 d]) = Ending.returned (.tuple #[.int .i64 (dY D), .int .i64 (dM D), .int .i64 (dD D)]) := by
    intro y m d h
    obtain ⟨e1, e2, e3, e4⟩ := date_eq c h
    rw [e1, e2, e3]
  have K := Lib.hid key
  clear key
  generalize dY D = RY at *
  generalize dM D = RM at *
  generalize dD D = RD at *
  go_enter Try.func72, Try.ntmps72
  go_wp2
  go_loop [0, 5, 6] (fun t q r => ∃ k j : Int, 2000 ≤ k ∧ k ≤ 2273 ∧ 1 ≤ j ∧ j ≤ 12 ∧ 0 ≤ D - dby k - cum k j ∧ t = .int .i64 (D - dby k - cum k j) ∧ q = .int .i64 k ∧ r = .int .i64 j) (fun t _ _ => (intOf t).toNat)
  case atStart => exact ⟨2000, 1, by omega, by omega, by omega, by omega, by rw [dby_0, cum_1]; omega, by rw [dby_0, cum_1, Int.sub_zero, Int.sub_zero], rfl, rfl⟩
  case round =>
    obtain ⟨k, j, hk1, hk2, hj1, hj2, hj3, rfl, rfl, rfl⟩ := hrel
    have kb := dby_bd k hk1
    have jb := cum_bd k j hj1
    have ml := mlen_bd k j
    by_cases hl2 : mlen k j ≤ D - dby k - cum k j
    · have hs := Lib.hid (cum_succ k j hj1)
      by_cases g : j < 12
      · go_wp2_with (go_at_call 50; (with_reducible refine (sMlen _ _ _ (by omega) (by omega) (by omega) (by omega)).mono ?_); rintro e w' ⟨rfl, rfl⟩)
        go_round
        case rel => exact ⟨k, j + 1, by omega, by omega, by omega, by omega, by rw [hs.out]; omega, val_i (by rw [hs.out]; omega), rfl, rfl⟩
        case measure => simp [intOf]; omega
      · have hj : j = 12 := by omega
        have h1 := cum_13 k
        have h2 := hs.out
        rw [hj, show (12 : Int) + 1 = 13 from rfl, h1, ← hj] at h2
        have h3 := dby_succ k hk1
        have hk4 : k + 1 ≤ 2273 := by
          by_cases g : k + 1 ≤ 2273
          · exact g
          · have e : k = 2273 := by omega
            have h4 := dby_top
            rw [e, show (2273 : Int) + 1 = 2274 from rfl, h4, ← e] at h3
            omega
        have h5 : D - dby k - cum k j - mlen k j = D - dby (k + 1) - cum (k + 1) 1 := by rw [cum_1]; omega
        have H5 := Lib.hid h5
        have h6 : 0 ≤ D - dby k - cum k j - mlen k j := by omega
        clear h1 h2 h3 h5 hs
        have H := Lib.hid hj
        clear hj
        go_wp2_with (go_at_call 50; (with_reducible refine (sMlen _ _ _ (by omega) (by omega) (by omega) (by omega)).mono ?_); rintro e w' ⟨rfl, rfl⟩)
        go_round
        case rel => exact ⟨k + 1, 1, by omega, by omega, by omega, by omega, by rw [← H5.out]; exact h6, val_i H5.out, rfl, rfl⟩
        case measure => simp [intOf]; omega
    · go_wp2_with (go_at_call 50; (with_reducible refine (sMlen _ _ _ (by omega) (by omega) (by omega) (by omega)).mono ?_); rintro e w' ⟨rfl, rfl⟩)
      go_ret3
      exact ⟨K.out _ _ _ ⟨hk1, hj1, hj2, by omega, by omega, by omega⟩, rfl⟩
theorem sDateOf (D : Int) (w : World) :
    Calls Try.prog 34 #[.int .i64 D] w fun e w' => e = .returned (.tuple #[.int .i64 (dY D), .int .i64 (dM D), .int .i64 (dD D), .int .i64 (dC D)]) ∧ w = w' := by
  cases c : inB D 0 99999
  · obtain ⟨e1, e2, e3, e4⟩ := date_no c
    rw [e1, e2, e3, e4]; clear e1 e2 e3 e4
    go_enter Try.func34, Try.ntmps34
    go_wp2_with (go_at_call 71; (with_reducible refine (sDay _ _).mono ?_); rintro e w' ⟨rfl, rfl⟩)
    exact bodyPost_ret (v := .tuple #[.int .i64 0, .int .i64 0, .int .i64 0, .int .i64 2]) (by simp [results, Try.results34, go_sem]) rfl ⟨rfl, rfl⟩
  · have e4 : dC D = 0 := by simp [dC, c]
    rw [e4]; clear e4
    go_enter Try.func34, Try.ntmps34
    go_wp2_with (first | (go_at_call 71; (with_reducible refine (sDay _ _).mono ?_); rintro e w' ⟨rfl, rfl⟩) | (go_at_call 72; (with_reducible refine (sDate _ _ (by assumption)).mono ?_); rintro e w' ⟨rfl, rfl⟩))
    exact bodyPost_ret (v := .tuple #[.int .i64 (dY D), .int .i64 (dM D), .int .i64 (dD D), .int .i64 0]) (by simp [results, Try.results34, go_sem]) rfl ⟨rfl, rfl⟩
theorem walk_FnExactDateOf (a0 : Int) (w : World) (w0 : (Lit.int .i64 a0).wf = true) :
    Calls Try.prog 11 #[.int .i64 a0] w fun e w' => e = .returned (.bool true) ∧ Below w.heap.size w w' := by
  go_enter Try.func11, Try.ntmps11
  go_wp2_with (first | (go_at_call 34; (with_reducible refine (sDateOf _ _).mono ?_); rintro e w' ⟨rfl, rfl⟩) | (go_at_call 35; (with_reducible refine (iDateOf _ _).mono ?_); rintro e w' ⟨rfl, rfl⟩))
  go_ret
  exact ⟨rfl, Below.refl _ _⟩
theorem iMilliOf (d m : Int) (w : World) (h1 : 0 ≤ d) (h2 : d ≤ 99999) (h3 : 0 ≤ m) (h4 : m ≤ 86399999) :
    Calls Try.prog 63 #[.agg #[.int .i64 d, .int .i64 m]] w fun e w' => e = .returned (.int .i64 (allOf d m)) ∧ Below w.heap.size w w' := by
  unfold allOf
  go_enter Try.func63, Try.ntmps63
  go_wp2
  go_ret
  exact ⟨rfl, by (repeat (first | exact Below.refl _ _ | assumption | (refine Below.drewN ?_ _) | (refine Below.drew ?_) | (refine Below.alloc ?_ (by first | (simp; done) | (simp; omega) | omega) _) | (refine Below.setCell ?_ (by first | (simp; done) | (simp; omega) | omega) _) | (refine Below.trans ?_ (Below.mono (by assumption) (by first | (simp; done) | (simp; omega) | omega)))))⟩
theorem sAll (d m : Int) (w : World) (h1 : 0 ≤ d) (h2 : d ≤ 99999) (h3 : 0 ≤ m) (h4 : m ≤ 86399999) :
    Calls Try.prog 60 #[.agg #[.int .i64 d, .int .i64 m]] w fun e w' => e = .returned (.int .i64 (allOf d m)) ∧ Below w.heap.size w w' := by
  unfold allOf
  go_enter Try.func60, Try.ntmps60
  go_wp2
  go_ret
  exact ⟨rfl, by (repeat (first | exact Below.refl _ _ | assumption | (refine Below.drewN ?_ _) | (refine Below.drew ?_) | (refine Below.alloc ?_ (by first | (simp; done) | (simp; omega) | omega) _) | (refine Below.setCell ?_ (by first | (simp; done) | (simp; omega) | omega) _) | (refine Below.trans ?_ (Below.mono (by assumption) (by first | (simp; done) | (simp; omega) | omega)))))⟩
theorem iMomentOf (t : Int) (w : World) (h1 : 0 ≤ t) (h2 : t ≤ 9223372036854775807) :
    Calls Try.prog 64 #[.int .i64 t] w fun e w' => e = .returned (.agg #[.int .i64 (t / 86400000), .int .i64 (t % 86400000)]) ∧ Below w.heap.size w w' := by
  go_enter Try.func64, Try.ntmps64
  go_wp2
  exact bodyPost_ret (v := .agg #[.int .i64 (t / 86400000), .int .i64 (t % 86400000)]) (by simp [results, Try.results64, go_sem]) rfl ⟨rfl, by (repeat (first | exact Below.refl _ _ | assumption | (refine Below.drewN ?_ _) | (refine Below.drew ?_) | (refine Below.alloc ?_ (by first | (simp; done) | (simp; omega) | omega) _) | (refine Below.setCell ?_ (by first | (simp; done) | (simp; omega) | omega) _) | (refine Below.trans ?_ (Below.mono (by assumption) (by first | (simp; done) | (simp; omega) | omega)))))⟩
theorem sAt (t : Int) (w : World) (h1 : 0 ≤ t) (h2 : t ≤ 9223372036854775807) :
    Calls Try.prog 61 #[.int .i64 t] w fun e w' => e = .returned (.agg #[.int .i64 (t / 86400000), .int .i64 (t % 86400000)]) ∧ Below w.heap.size w w' := by
  go_enter Try.func61, Try.ntmps61
  go_wp2
  exact bodyPost_ret (v := .agg #[.int .i64 (t / 86400000), .int .i64 (t % 86400000)]) (by simp [results, Try.results61, go_sem]) rfl ⟨rfl, by (repeat (first | exact Below.refl _ _ | assumption | (refine Below.drewN ?_ _) | (refine Below.drew ?_) | (refine Below.alloc ?_ (by first | (simp; done) | (simp; omega) | omega) _) | (refine Below.setCell ?_ (by first | (simp; done) | (simp; omega) | omega) _) | (refine Below.trans ?_ (Below.mono (by assumption) (by first | (simp; done) | (simp; omega) | omega)))))⟩
theorem sMost (w : World) : Calls Try.prog 59 #[] w fun e w' => e = .returned (.int .i64 8640000000000) ∧ w = w' := by
  go_enter Try.func59, Try.ntmps59
  go_wp2
  go_ret
  exact ⟨rfl, rfl⟩
theorem lEqMoment (d m : Int) (w : World) :
    Calls Try.prog 28 #[.agg #[.int .i64 d, .int .i64 m], .agg #[.int .i64 d, .int .i64 m]] w fun e w' => e = .returned (.bool true) ∧ Below w.heap.size w w' := by
  go_enter Try.func28, Try.ntmps28
  go_wp2
  go_ret
  exact ⟨rfl, by (repeat (first | exact Below.refl _ _ | assumption | (refine Below.drewN ?_ _) | (refine Below.drew ?_) | (refine Below.alloc ?_ (by first | (simp; done) | (simp; omega) | omega) _) | (refine Below.setCell ?_ (by first | (simp; done) | (simp; omega) | omega) _) | (refine Below.trans ?_ (Below.mono (by assumption) (by first | (simp; done) | (simp; omega) | omega)))))⟩
theorem iMomentAfter (d m s : Int) (w : World) (h1 : -9223372036854775808 ≤ s) (h2 : s ≤ 9223372036854775807) :
    Calls Try.prog 27 #[.agg #[.int .i64 d, .int .i64 m], .int .i64 s] w fun e w' => e = .returned (.tuple #[.agg #[.int .i64 (mafD d m s), .int .i64 (mafM d m s)], .int .i64 (mafC d m s)]) ∧ Below w.heap.size w w' := by
  cases c1 : okM d m
  · skip
    have e1 : mafC d m s = 1 := by simp [mafC, c1]
    have e2 : mafD d m s = 0 := by simp [mafD, e1]
    have e3 : mafM d m s = 0 := by simp [mafM, e1]
    rw [e1, e2, e3]; clear e1 e2 e3
    go_enter Try.func27, Try.ntmps27
    go_wp2_with (first | (go_at_call 62; (with_reducible refine (iValidMoment _ _ _).mono ?_); rintro e w' ⟨rfl, hb⟩; have hs := hb.size; (try simp at hs); (try have hz : w.heap.size < w'.heap.size := by omega); (try have hz1 : w.heap.size + 1 < w'.heap.size := by omega); (try have hz2 : w.heap.size + 1 + 1 < w'.heap.size := by omega); obtain ⟨hc, hf⟩ := bcell hb) | (go_at_call 46; (with_reducible refine (iWithin _ _ _ _).mono ?_); rintro e w' ⟨rfl, rfl⟩))
    exact bodyPost_ret (v := .tuple #[.agg #[.int .i64 0, .int .i64 0], .int .i64 1]) (by simp [results, Try.results27, go_sem, *]) rfl ⟨rfl, by (repeat (first | exact Below.refl _ _ | assumption | (refine Below.drewN ?_ _) | (refine Below.drew ?_) | (refine Below.alloc ?_ (by first | (simp; done) | (simp; omega) | omega) _) | (refine Below.setCell ?_ (by first | (simp; done) | (simp; omega) | omega) _) | (refine Below.trans ?_ (Below.mono (by assumption) (by first | (simp; done) | (simp; omega) | omega)))))⟩
  cases c2 : inB s (-8640000000000) 8640000000000
  · skip
    have e1 : mafC d m s = 2 := by simp [mafC, c1, c2]
    have e2 : mafD d m s = 0 := by simp [mafD, e1]
    have e3 : mafM d m s = 0 := by simp [mafM, e1]
    rw [e1, e2, e3]; clear e1 e2 e3
    go_enter Try.func27, Try.ntmps27
    go_wp2_with (first | (go_at_call 62; (with_reducible refine (iValidMoment _ _ _).mono ?_); rintro e w' ⟨rfl, hb⟩; have hs := hb.size; (try simp at hs); (try have hz : w.heap.size < w'.heap.size := by omega); (try have hz1 : w.heap.size + 1 < w'.heap.size := by omega); (try have hz2 : w.heap.size + 1 + 1 < w'.heap.size := by omega); obtain ⟨hc, hf⟩ := bcell hb) | (go_at_call 46; (with_reducible refine (iWithin _ _ _ _).mono ?_); rintro e w' ⟨rfl, rfl⟩) | (go_at_call 59; (with_reducible refine (sMost _).mono ?_); rintro e w' ⟨rfl, rfl⟩))
    exact bodyPost_ret (v := .tuple #[.agg #[.int .i64 0, .int .i64 0], .int .i64 2]) (by simp [results, Try.results27, go_sem, *]) rfl ⟨rfl, by (repeat (first | exact Below.refl _ _ | assumption | (refine Below.drewN ?_ _) | (refine Below.drew ?_) | (refine Below.alloc ?_ (by first | (simp; done) | (simp; omega) | omega) _) | (refine Below.setCell ?_ (by first | (simp; done) | (simp; omega) | omega) _) | (refine Below.trans ?_ (Below.mono (by assumption) (by first | (simp; done) | (simp; omega) | omega)))))⟩
  have b1 := okM_t c1
  have b2 := inB_t c2
  have b3 : 0 ≤ allOf d m ∧ allOf d m ≤ 8639999999999 := by unfold allOf; omega
  cases c3 : inB (allOf d m + s) 0 8639999999999
  · skip
    have e1 : mafC d m s = 6 := by simp [mafC, c1, c2, c3]
    have e2 : mafD d m s = 0 := by simp [mafD, e1]
    have e3 : mafM d m s = 0 := by simp [mafM, e1]
    rw [e1, e2, e3]; clear e1 e2 e3
    go_enter Try.func27, Try.ntmps27
    go_wp2_with (first | (go_at_call 62; (with_reducible refine (iValidMoment _ _ _).mono ?_); rintro e w' ⟨rfl, hb⟩; have hs := hb.size; (try simp at hs); (try have hz : w.heap.size < w'.heap.size := by omega); (try have hz1 : w.heap.size + 1 < w'.heap.size := by omega); (try have hz2 : w.heap.size + 1 + 1 < w'.heap.size := by omega); obtain ⟨hc, hf⟩ := bcell hb) | (go_at_call 46; (with_reducible refine (iWithin _ _ _ _).mono ?_); rintro e w' ⟨rfl, rfl⟩) | (go_at_call 63; (with_reducible refine (iMilliOf _ _ _ (by omega) (by omega) (by omega) (by omega)).mono ?_); rintro e w' ⟨rfl, hb⟩; have hs := hb.size; (try simp at hs); (try have hz : w.heap.size < w'.heap.size := by omega); (try have hz1 : w.heap.size + 1 < w'.heap.size := by omega); (try have hz2 : w.heap.size + 1 + 1 < w'.heap.size := by omega); obtain ⟨hc, hf⟩ := bcell hb) | (go_at_call 59; (with_reducible refine (sMost _).mono ?_); rintro e w' ⟨rfl, rfl⟩))
    exact bodyPost_ret (v := .tuple #[.agg #[.int .i64 0, .int .i64 0], .int .i64 6]) (by simp [results, Try.results27, go_sem, *]) rfl ⟨rfl, by (repeat (first | exact Below.refl _ _ | assumption | (refine Below.drewN ?_ _) | (refine Below.drew ?_) | (refine Below.alloc ?_ (by first | (simp; done) | (simp; omega) | omega) _) | (refine Below.setCell ?_ (by first | (simp; done) | (simp; omega) | omega) _) | (refine Below.trans ?_ (Below.mono (by assumption) (by first | (simp; done) | (simp; omega) | omega)))))⟩
  have b4 := inB_t c3
  have e1 : mafC d m s = 0 := by simp [mafC, c1, c2, c3]
  have e2 : mafD d m s = (allOf d m + s) / 86400000 := by simp [mafD, e1]
  have e3 : mafM d m s = (allOf d m + s) % 86400000 := by simp [mafM, e1]
  rw [e1, e2, e3]; clear e1 e2 e3
  go_enter Try.func27, Try.ntmps27
  go_wp2_with (first | (go_at_call 62; (with_reducible refine (iValidMoment _ _ _).mono ?_); rintro e w' ⟨rfl, hb⟩; have hs := hb.size; (try simp at hs); (try have hz : w.heap.size < w'.heap.size := by omega); (try have hz1 : w.heap.size + 1 < w'.heap.size := by omega); (try have hz2 : w.heap.size + 1 + 1 < w'.heap.size := by omega); obtain ⟨hc, hf⟩ := bcell hb) | (go_at_call 46; (with_reducible refine (iWithin _ _ _ _).mono ?_); rintro e w' ⟨rfl, rfl⟩) | (go_at_call 63; (with_reducible refine (iMilliOf _ _ _ (by omega) (by omega) (by omega) (by omega)).mono ?_); rintro e w' ⟨rfl, hb⟩; have hs := hb.size; (try simp at hs); (try have hz : w.heap.size < w'.heap.size := by omega); (try have hz1 : w.heap.size + 1 < w'.heap.size := by omega); (try have hz2 : w.heap.size + 1 + 1 < w'.heap.size := by omega); obtain ⟨hc, hf⟩ := bcell hb) | (go_at_call 64; (with_reducible refine (iMomentOf _ _ (by omega) (by omega)).mono ?_); rintro e w' ⟨rfl, hb⟩; have hs := hb.size; (try simp at hs); (try have hz : w.heap.size < w'.heap.size := by omega); (try have hz1 : w.heap.size + 1 < w'.heap.size := by omega); (try have hz2 : w.heap.size + 1 + 1 < w'.heap.size := by omega); obtain ⟨hc, hf⟩ := bcell hb) | (go_at_call 59; (with_reducible refine (sMost _).mono ?_); rintro e w' ⟨rfl, rfl⟩))
  exact bodyPost_ret (v := .tuple #[.agg #[.int .i64 ((allOf d m + s) / 86400000), .int .i64 ((allOf d m + s) % 86400000)], .int .i64 0]) (by simp [results, Try.results27, go_sem, *]) rfl ⟨rfl, by (repeat (first | exact Below.refl _ _ | assumption | (refine Below.drewN ?_ _) | (refine Below.drew ?_) | (refine Below.alloc ?_ (by first | (simp; done) | (simp; omega) | omega) _) | (refine Below.setCell ?_ (by first | (simp; done) | (simp; omega) | omega) _) | (refine Below.trans ?_ (Below.mono (by assumption) (by first | (simp; done) | (simp; omega) | omega)))))⟩
theorem sMomentAfter (d m s : Int) (w : World) (h1 : -9223372036854775808 ≤ s) (h2 : s ≤ 9223372036854775807) :
    Calls Try.prog 25 #[.agg #[.int .i64 d, .int .i64 m], .int .i64 s] w fun e w' => e = .returned (.tuple #[.agg #[.int .i64 (mafD d m s), .int .i64 (mafM d m s)], .int .i64 (mafC d m s)]) ∧ Below w.heap.size w w' := by
  cases c1 : okM d m
  · skip
    have e1 : mafC d m s = 1 := by simp [mafC, c1]
    have e2 : mafD d m s = 0 := by simp [mafD, e1]
    have e3 : mafM d m s = 0 := by simp [mafM, e1]
    rw [e1, e2, e3]; clear e1 e2 e3
    go_enter Try.func25, Try.ntmps25
    go_wp2_with (first | (go_at_call 58; (with_reducible refine (sOkM _ _ _).mono ?_); rintro e w' ⟨rfl, hb⟩; have hs := hb.size; (try simp at hs); (try have hz : w.heap.size < w'.heap.size := by omega); (try have hz1 : w.heap.size + 1 < w'.heap.size := by omega); (try have hz2 : w.heap.size + 1 + 1 < w'.heap.size := by omega); obtain ⟨hc, hf⟩ := bcell hb) | (go_at_call 44; (with_reducible refine (sIn _ _ _ _).mono ?_); rintro e w' ⟨rfl, rfl⟩))
    exact bodyPost_ret (v := .tuple #[.agg #[.int .i64 0, .int .i64 0], .int .i64 1]) (by simp [results, Try.results25, go_sem, *]) rfl ⟨rfl, by (repeat (first | exact Below.refl _ _ | assumption | (refine Below.drewN ?_ _) | (refine Below.drew ?_) | (refine Below.alloc ?_ (by first | (simp; done) | (simp; omega) | omega) _) | (refine Below.setCell ?_ (by first | (simp; done) | (simp; omega) | omega) _) | (refine Below.trans ?_ (Below.mono (by assumption) (by first | (simp; done) | (simp; omega) | omega)))))⟩
  cases c2 : inB s (-8640000000000) 8640000000000
  · skip
    have e1 : mafC d m s = 2 := by simp [mafC, c1, c2]
    have e2 : mafD d m s = 0 := by simp [mafD, e1]
    have e3 : mafM d m s = 0 := by simp [mafM, e1]
    rw [e1, e2, e3]; clear e1 e2 e3
    go_enter Try.func25, Try.ntmps25
    go_wp2_with (first | (go_at_call 58; (with_reducible refine (sOkM _ _ _).mono ?_); rintro e w' ⟨rfl, hb⟩; have hs := hb.size; (try simp at hs); (try have hz : w.heap.size < w'.heap.size := by omega); (try have hz1 : w.heap.size + 1 < w'.heap.size := by omega); (try have hz2 : w.heap.size + 1 + 1 < w'.heap.size := by omega); obtain ⟨hc, hf⟩ := bcell hb) | (go_at_call 44; (with_reducible refine (sIn _ _ _ _).mono ?_); rintro e w' ⟨rfl, rfl⟩) | (go_at_call 59; (with_reducible refine (sMost _).mono ?_); rintro e w' ⟨rfl, rfl⟩))
    exact bodyPost_ret (v := .tuple #[.agg #[.int .i64 0, .int .i64 0], .int .i64 2]) (by simp [results, Try.results25, go_sem, *]) rfl ⟨rfl, by (repeat (first | exact Below.refl _ _ | assumption | (refine Below.drewN ?_ _) | (refine Below.drew ?_) | (refine Below.alloc ?_ (by first | (simp; done) | (simp; omega) | omega) _) | (refine Below.setCell ?_ (by first | (simp; done) | (simp; omega) | omega) _) | (refine Below.trans ?_ (Below.mono (by assumption) (by first | (simp; done) | (simp; omega) | omega)))))⟩
  have b1 := okM_t c1
  have b2 := inB_t c2
  have b3 : 0 ≤ allOf d m ∧ allOf d m ≤ 8639999999999 := by unfold allOf; omega
  cases c3 : inB (allOf d m + s) 0 8639999999999
  · skip
    have e1 : mafC d m s = 6 := by simp [mafC, c1, c2, c3]
    have e2 : mafD d m s = 0 := by simp [mafD, e1]
    have e3 : mafM d m s = 0 := by simp [mafM, e1]
    rw [e1, e2, e3]; clear e1 e2 e3
    go_enter Try.func25, Try.ntmps25
    go_wp2_with (first | (go_at_call 58; (with_reducible refine (sOkM _ _ _).mono ?_); rintro e w' ⟨rfl, hb⟩; have hs := hb.size; (try simp at hs); (try have hz : w.heap.size < w'.heap.size := by omega); (try have hz1 : w.heap.size + 1 < w'.heap.size := by omega); (try have hz2 : w.heap.size + 1 + 1 < w'.heap.size := by omega); obtain ⟨hc, hf⟩ := bcell hb) | (go_at_call 44; (with_reducible refine (sIn _ _ _ _).mono ?_); rintro e w' ⟨rfl, rfl⟩) | (go_at_call 60; (with_reducible refine (sAll _ _ _ (by omega) (by omega) (by omega) (by omega)).mono ?_); rintro e w' ⟨rfl, hb⟩; have hs := hb.size; (try simp at hs); (try have hz : w.heap.size < w'.heap.size := by omega); (try have hz1 : w.heap.size + 1 < w'.heap.size := by omega); (try have hz2 : w.heap.size + 1 + 1 < w'.heap.size := by omega); obtain ⟨hc, hf⟩ := bcell hb) | (go_at_call 59; (with_reducible refine (sMost _).mono ?_); rintro e w' ⟨rfl, rfl⟩))
    exact bodyPost_ret (v := .tuple #[.agg #[.int .i64 0, .int .i64 0], .int .i64 6]) (by simp [results, Try.results25, go_sem, *]) rfl ⟨rfl, by (repeat (first | exact Below.refl _ _ | assumption | (refine Below.drewN ?_ _) | (refine Below.drew ?_) | (refine Below.alloc ?_ (by first | (simp; done) | (simp; omega) | omega) _) | (refine Below.setCell ?_ (by first | (simp; done) | (simp; omega) | omega) _) | (refine Below.trans ?_ (Below.mono (by assumption) (by first | (simp; done) | (simp; omega) | omega)))))⟩
  have b4 := inB_t c3
  have e1 : mafC d m s = 0 := by simp [mafC, c1, c2, c3]
  have e2 : mafD d m s = (allOf d m + s) / 86400000 := by simp [mafD, e1]
  have e3 : mafM d m s = (allOf d m + s) % 86400000 := by simp [mafM, e1]
  rw [e1, e2, e3]; clear e1 e2 e3
  go_enter Try.func25, Try.ntmps25
  go_wp2_with (first | (go_at_call 58; (with_reducible refine (sOkM _ _ _).mono ?_); rintro e w' ⟨rfl, hb⟩; have hs := hb.size; (try simp at hs); (try have hz : w.heap.size < w'.heap.size := by omega); (try have hz1 : w.heap.size + 1 < w'.heap.size := by omega); (try have hz2 : w.heap.size + 1 + 1 < w'.heap.size := by omega); obtain ⟨hc, hf⟩ := bcell hb) | (go_at_call 44; (with_reducible refine (sIn _ _ _ _).mono ?_); rintro e w' ⟨rfl, rfl⟩) | (go_at_call 60; (with_reducible refine (sAll _ _ _ (by omega) (by omega) (by omega) (by omega)).mono ?_); rintro e w' ⟨rfl, hb⟩; have hs := hb.size; (try simp at hs); (try have hz : w.heap.size < w'.heap.size := by omega); (try have hz1 : w.heap.size + 1 < w'.heap.size := by omega); (try have hz2 : w.heap.size + 1 + 1 < w'.heap.size := by omega); obtain ⟨hc, hf⟩ := bcell hb) | (go_at_call 61; (with_reducible refine (sAt _ _ (by omega) (by omega)).mono ?_); rintro e w' ⟨rfl, hb⟩; have hs := hb.size; (try simp at hs); (try have hz : w.heap.size < w'.heap.size := by omega); (try have hz1 : w.heap.size + 1 < w'.heap.size := by omega); (try have hz2 : w.heap.size + 1 + 1 < w'.heap.size := by omega); obtain ⟨hc, hf⟩ := bcell hb) | (go_at_call 59; (with_reducible refine (sMost _).mono ?_); rintro e w' ⟨rfl, rfl⟩))
  exact bodyPost_ret (v := .tuple #[.agg #[.int .i64 ((allOf d m + s) / 86400000), .int .i64 ((allOf d m + s) % 86400000)], .int .i64 0]) (by simp [results, Try.results25, go_sem, *]) rfl ⟨rfl, by (repeat (first | exact Below.refl _ _ | assumption | (refine Below.drewN ?_ _) | (refine Below.drew ?_) | (refine Below.alloc ?_ (by first | (simp; done) | (simp; omega) | omega) _) | (refine Below.setCell ?_ (by first | (simp; done) | (simp; omega) | omega) _) | (refine Below.trans ?_ (Below.mono (by assumption) (by first | (simp; done) | (simp; omega) | omega)))))⟩
theorem walk_FnExactMomentAfter (a0_0 a0_1 : Int) (a1 : Int) (w : World) (w0_0 : (Lit.int .i64 a0_0).wf = true) (w0_1 : (Lit.int .i64 a0_1).wf = true) (w1 : (Lit.int .i64 a1).wf = true) :
    Calls Try.prog 8 #[.agg #[.int .i64 a0_0, .int .i64 a0_1], .int .i64 a1] w fun e w' => e = .returned (.bool true) ∧ Below w.heap.size w w' := by
  obtain ⟨h1, h2⟩ := bd64 w1
  clear w0_0 w0_1 w1
  go_enter Try.func8, Try.ntmps8
  go_wp2_with fail
  (with_reducible refine (lToMoment _ _ _).mono ?_)
  rintro e W1 ⟨rfl, hb1⟩
  have hs1 := hb1.size
  (try simp at hs1)
  obtain ⟨hc1, hf1⟩ := bcell hb1
  (try have hz0_1 : w.heap.size < W1.heap.size := by omega)
  (try have hy0_1 : w.heap.size + 1 < W1.heap.size := by omega)
  go_wp2_with fail
  (with_reducible refine (sMomentAfter _ _ _ _ (by omega) (by omega)).mono ?_)
  rintro e W2 ⟨rfl, hb2⟩
  have hs2 := hb2.size
  (try simp at hs2)
  obtain ⟨hc2, hf2⟩ := bcell hb2
  (try have hz0_2 : w.heap.size < W2.heap.size := by omega)
  (try have hy0_2 : w.heap.size + 1 < W2.heap.size := by omega)
  (try have hz1_2 : W1.heap.size < W2.heap.size := by omega)
  (try have hy1_2 : W1.heap.size + 1 < W2.heap.size := by omega)
  go_wp2_with fail
  (with_reducible refine (lToMoment _ _ _).mono ?_)
  rintro e W3 ⟨rfl, hb3⟩
  have hs3 := hb3.size
  (try simp at hs3)
  obtain ⟨hc3, hf3⟩ := bcell hb3
  (try have hz0_3 : w.heap.size < W3.heap.size := by omega)
  (try have hy0_3 : w.heap.size + 1 < W3.heap.size := by omega)
  (try have hz1_3 : W1.heap.size < W3.heap.size := by omega)
  (try have hy1_3 : W1.heap.size + 1 < W3.heap.size := by omega)
  (try have hz2_3 : W2.heap.size < W3.heap.size := by omega)
  (try have hy2_3 : W2.heap.size + 1 < W3.heap.size := by omega)
  go_wp2_with fail
  (with_reducible refine (iMomentAfter _ _ _ _ (by omega) (by omega)).mono ?_)
  rintro e W4 ⟨rfl, hb4⟩
  have hs4 := hb4.size
  (try simp at hs4)
  obtain ⟨hc4, hf4⟩ := bcell hb4
  (try have hz0_4 : w.heap.size < W4.heap.size := by omega)
  (try have hy0_4 : w.heap.size + 1 < W4.heap.size := by omega)
  (try have hz1_4 : W1.heap.size < W4.heap.size := by omega)
  (try have hy1_4 : W1.heap.size + 1 < W4.heap.size := by omega)
  (try have hz2_4 : W2.heap.size < W4.heap.size := by omega)
  (try have hy2_4 : W2.heap.size + 1 < W4.heap.size := by omega)
  (try have hz3_4 : W3.heap.size < W4.heap.size := by omega)
  (try have hy3_4 : W3.heap.size + 1 < W4.heap.size := by omega)
  go_wp2_with fail
  (with_reducible refine (lEqMoment _ _ _).mono ?_)
  rintro e W5 ⟨rfl, hb5⟩
  have hs5 := hb5.size
  (try simp at hs5)
  obtain ⟨hc5, hf5⟩ := bcell hb5
  (try have hz0_5 : w.heap.size < W5.heap.size := by omega)
  (try have hy0_5 : w.heap.size + 1 < W5.heap.size := by omega)
  (try have hz1_5 : W1.heap.size < W5.heap.size := by omega)
  (try have hy1_5 : W1.heap.size + 1 < W5.heap.size := by omega)
  (try have hz2_5 : W2.heap.size < W5.heap.size := by omega)
  (try have hy2_5 : W2.heap.size + 1 < W5.heap.size := by omega)
  (try have hz3_5 : W3.heap.size < W5.heap.size := by omega)
  (try have hy3_5 : W3.heap.size + 1 < W5.heap.size := by omega)
  (try have hz4_5 : W4.heap.size < W5.heap.size := by omega)
  (try have hy4_5 : W4.heap.size + 1 < W5.heap.size := by omega)
  go_wp2
  go_ret
  exact ⟨rfl, by (repeat (first | exact Below.refl _ _ | assumption | (refine Below.drewN ?_ _) | (refine Below.drew ?_) | (refine Below.alloc ?_ (by first | (simp; done) | (simp; omega) | omega) _) | (refine Below.setCell ?_ (by first | (simp; done) | (simp; omega) | omega) _) | (refine Below.trans ?_ (Below.mono (by assumption) (by first | (simp; done) | (simp; omega) | omega)))))⟩
theorem iTurned (t : Int) (w : World) (h1 : 0 ≤ t) (h2 : t ≤ 9000000000000) :
    Calls Try.prog 81 #[.int .i64 t] w fun e w' => e = .returned (.int .i64 (turned t)) ∧ w = w' := by
  unfold turned
  go_enter Try.func81, Try.ntmps81
  go_wp2
  go_ret
  exact ⟨rfl, rfl⟩
theorem sTurned (t : Int) (w : World) (h1 : 0 ≤ t) (h2 : t ≤ 9000000000000) :
    Calls Try.prog 88 #[.int .i64 t] w fun e w' => e = .returned (.int .i64 (turned t)) ∧ w = w' := by
  unfold turned
  go_enter Try.func88, Try.ntmps88
  go_wp2
  go_ret
  exact ⟨rfl, rfl⟩
theorem iSidereal (d m l : Int) (w : World) :
    Calls Try.prog 42 #[.agg #[.int .i64 d, .int .i64 m], .int .i64 l] w fun e w' => e = .returned (.tuple #[.int .i64 (sidA d m l), .int .i64 (sidC d m l)]) ∧ Below w.heap.size w w' := by
  unfold sidA sidC
  cases c1 : okM d m
  · go_enter Try.func42, Try.ntmps42
    go_wp2_with (go_at_call 62; (with_reducible refine (iValidMoment _ _ _).mono ?_); rintro e w' ⟨rfl, hb⟩; have hs := hb.size; (try simp at hs); (try have hz : w.heap.size < w'.heap.size := by omega); (try have hz1 : w.heap.size + 1 < w'.heap.size := by omega); (try have hz2 : w.heap.size + 1 + 1 < w'.heap.size := by omega); obtain ⟨hc, hf⟩ := bcell hb)
    go_ret2
    exact ⟨rfl, by (repeat (first | exact Below.refl _ _ | assumption | (refine Below.drewN ?_ _) | (refine Below.drew ?_) | (refine Below.alloc ?_ (by first | (simp; done) | (simp; omega) | omega) _) | (refine Below.setCell ?_ (by first | (simp; done) | (simp; omega) | omega) _) | (refine Below.trans ?_ (Below.mono (by assumption) (by first | (simp; done) | (simp; omega) | omega)))))⟩
  cases c2 : inB l 0 359999
  · go_enter Try.func42, Try.ntmps42
    go_wp2_with (first | (go_at_call 62; (with_reducible refine (iValidMoment _ _ _).mono ?_); rintro e w' ⟨rfl, hb⟩; have hs := hb.size; (try simp at hs); (try have hz : w.heap.size < w'.heap.size := by omega); (try have hz1 : w.heap.size + 1 < w'.heap.size := by omega); (try have hz2 : w.heap.size + 1 + 1 < w'.heap.size := by omega); obtain ⟨hc, hf⟩ := bcell hb) | (go_at_call 46; (with_reducible refine (iWithin _ _ _ _).mono ?_); rintro e w' ⟨rfl, rfl⟩))
    go_ret2
    exact ⟨rfl, by (repeat (first | exact Below.refl _ _ | assumption | (refine Below.drewN ?_ _) | (refine Below.drew ?_) | (refine Below.alloc ?_ (by first | (simp; done) | (simp; omega) | omega) _) | (refine Below.setCell ?_ (by first | (simp; done) | (simp; omega) | omega) _) | (refine Below.trans ?_ (Below.mono (by assumption) (by first | (simp; done) | (simp; omega) | omega)))))⟩
  have b1 := okM_t c1
  have b2 := inB_t c2
  have b3 : 0 ≤ allOf d m ∧ allOf d m ≤ 8639999999999 := by unfold allOf; omega
  have b4 := turned_bd b3.1 (show allOf d m ≤ 9000000000000 by omega)
  go_enter Try.func42, Try.ntmps42
  go_wp2_with (first | (go_at_call 62; (with_reducible refine (iValidMoment _ _ _).mono ?_); rintro e w' ⟨rfl, hb⟩; have hs := hb.size; (try simp at hs); (try have hz : w.heap.size < w'.heap.size := by omega); (try have hz1 : w.heap.size + 1 < w'.heap.size := by omega); (try have hz2 : w.heap.size + 1 + 1 < w'.heap.size := by omega); obtain ⟨hc, hf⟩ := bcell hb) | (go_at_call 46; (with_reducible refine (iWithin _ _ _ _).mono ?_); rintro e w' ⟨rfl, rfl⟩) | (go_at_call 63; (with_reducible refine (iMilliOf _ _ _ (by omega) (by omega) (by omega) (by omega)).mono ?_); rintro e w' ⟨rfl, hb⟩; have hs := hb.size; (try simp at hs); (try have hz : w.heap.size < w'.heap.size := by omega); (try have hz1 : w.heap.size + 1 < w'.heap.size := by omega); (try have hz2 : w.heap.size + 1 + 1 < w'.heap.size := by omega); obtain ⟨hc, hf⟩ := bcell hb) | (go_at_call 81; (with_reducible refine (iTurned _ _ (by omega) (by omega)).mono ?_); rintro e w' ⟨rfl, rfl⟩))
  go_ret2
  exact ⟨rfl, by (repeat (first | exact Below.refl _ _ | assumption | (refine Below.drewN ?_ _) | (refine Below.drew ?_) | (refine Below.alloc ?_ (by first | (simp; done) | (simp; omega) | omega) _) | (refine Below.setCell ?_ (by first | (simp; done) | (simp; omega) | omega) _) | (refine Below.trans ?_ (Below.mono (by assumption) (by first | (simp; done) | (simp; omega) | omega)))))⟩
theorem sSid (d m l : Int) (w : World) (h1 : 0 ≤ d) (h2 : d ≤ 99999) (h3 : 0 ≤ m) (h4 : m ≤ 86399999) (h5 : 0 ≤ l) (h6 : l ≤ 359999) :
    Calls Try.prog 80 #[.agg #[.int .i64 d, .int .i64 m], .int .i64 l] w fun e w' => e = .returned (.int .i64 ((99968 + l + turned (allOf d m)) % 360000)) ∧ Below w.heap.size w w' := by
  have b3 : 0 ≤ allOf d m ∧ allOf d m ≤ 8639999999999 := by unfold allOf; omega
  have b4 := turned_bd b3.1 (show allOf d m ≤ 9000000000000 by omega)
  go_enter Try.func80, Try.ntmps80
  go_wp2_with (first | (go_at_call 60; (with_reducible refine (sAll _ _ _ (by omega) (by omega) (by omega) (by omega)).mono ?_); rintro e w' ⟨rfl, hb⟩; have hs := hb.size; (try simp at hs); (try have hz : w.heap.size < w'.heap.size := by omega); (try have hz1 : w.heap.size + 1 < w'.heap.size := by omega); (try have hz2 : w.heap.size + 1 + 1 < w'.heap.size := by omega); obtain ⟨hc, hf⟩ := bcell hb) | (go_at_call 88; (with_reducible refine (sTurned _ _ (by omega) (by omega)).mono ?_); rintro e w' ⟨rfl, rfl⟩))
  go_ret
  exact ⟨rfl, by (repeat (first | exact Below.refl _ _ | assumption | (refine Below.drewN ?_ _) | (refine Below.drew ?_) | (refine Below.alloc ?_ (by first | (simp; done) | (simp; omega) | omega) _) | (refine Below.setCell ?_ (by first | (simp; done) | (simp; omega) | omega) _) | (refine Below.trans ?_ (Below.mono (by assumption) (by first | (simp; done) | (simp; omega) | omega)))))⟩
theorem sSidereal (d m l : Int) (w : World) :
    Calls Try.prog 41 #[.agg #[.int .i64 d, .int .i64 m], .int .i64 l] w fun e w' => e = .returned (.tuple #[.int .i64 (sidA d m l), .int .i64 (sidC d m l)]) ∧ Below w.heap.size w w' := by
  unfold sidA sidC
  cases c1 : okM d m
  · go_enter Try.func41, Try.ntmps41
    go_wp2_with (go_at_call 58; (with_reducible refine (sOkM _ _ _).mono ?_); rintro e w' ⟨rfl, hb⟩; have hs := hb.size; (try simp at hs); (try have hz : w.heap.size < w'.heap.size := by omega); (try have hz1 : w.heap.size + 1 < w'.heap.size := by omega); (try have hz2 : w.heap.size + 1 + 1 < w'.heap.size := by omega); obtain ⟨hc, hf⟩ := bcell hb)
    go_ret2
    exact ⟨rfl, by (repeat (first | exact Below.refl _ _ | assumption | (refine Below.drewN ?_ _) | (refine Below.drew ?_) | (refine Below.alloc ?_ (by first | (simp; done) | (simp; omega) | omega) _) | (refine Below.setCell ?_ (by first | (simp; done) | (simp; omega) | omega) _) | (refine Below.trans ?_ (Below.mono (by assumption) (by first | (simp; done) | (simp; omega) | omega)))))⟩
  cases c2 : inB l 0 359999
  · go_enter Try.func41, Try.ntmps41
    go_wp2_with (first | (go_at_call 58; (with_reducible refine (sOkM _ _ _).mono ?_); rintro e w' ⟨rfl, hb⟩; have hs := hb.size; (try simp at hs); (try have hz : w.heap.size < w'.heap.size := by omega); (try have hz1 : w.heap.size + 1 < w'.heap.size := by omega); (try have hz2 : w.heap.size + 1 + 1 < w'.heap.size := by omega); obtain ⟨hc, hf⟩ := bcell hb) | (go_at_call 79; (with_reducible refine (sAngle _ _).mono ?_); rintro e w' ⟨rfl, rfl⟩))
    go_ret2
    exact ⟨rfl, by (repeat (first | exact Below.refl _ _ | assumption | (refine Below.drewN ?_ _) | (refine Below.drew ?_) | (refine Below.alloc ?_ (by first | (simp; done) | (simp; omega) | omega) _) | (refine Below.setCell ?_ (by first | (simp; done) | (simp; omega) | omega) _) | (refine Below.trans ?_ (Below.mono (by assumption) (by first | (simp; done) | (simp; omega) | omega)))))⟩
  have b1 := okM_t c1
  have b2 := inB_t c2
  go_enter Try.func41, Try.ntmps41
  go_wp2_with (first | (go_at_call 58; (with_reducible refine (sOkM _ _ _).mono ?_); rintro e w' ⟨rfl, hb⟩; have hs := hb.size; (try simp at hs); (try have hz : w.heap.size < w'.heap.size := by omega); (try have hz1 : w.heap.size + 1 < w'.heap.size := by omega); (try have hz2 : w.heap.size + 1 + 1 < w'.heap.size := by omega); obtain ⟨hc, hf⟩ := bcell hb) | (go_at_call 79; (with_reducible refine (sAngle _ _).mono ?_); rintro e w' ⟨rfl, rfl⟩) | (go_at_call 80; (with_reducible refine (sSid _ _ _ _ (by omega) (by omega) (by omega) (by omega) (by omega) (by omega)).mono ?_); rintro e w' ⟨rfl, hb⟩; have hs := hb.size; (try simp at hs); (try have hz : w.heap.size < w'.heap.size := by omega); (try have hz1 : w.heap.size + 1 < w'.heap.size := by omega); (try have hz2 : w.heap.size + 1 + 1 < w'.heap.size := by omega); obtain ⟨hc, hf⟩ := bcell hb))
  go_ret2
  exact ⟨rfl, by (repeat (first | exact Below.refl _ _ | assumption | (refine Below.drewN ?_ _) | (refine Below.drew ?_) | (refine Below.alloc ?_ (by first | (simp; done) | (simp; omega) | omega) _) | (refine Below.setCell ?_ (by first | (simp; done) | (simp; omega) | omega) _) | (refine Below.trans ?_ (Below.mono (by assumption) (by first | (simp; done) | (simp; omega) | omega)))))⟩
theorem walk_FnExactSiderealAngle (a0_0 a0_1 : Int) (a1 : Int) (w : World) (w0_0 : (Lit.int .i64 a0_0).wf = true) (w0_1 : (Lit.int .i64 a0_1).wf = true) (w1 : (Lit.int .i64 a1).wf = true) :
    Calls Try.prog 14 #[.agg #[.int .i64 a0_0, .int .i64 a0_1], .int .i64 a1] w fun e w' => e = .returned (.bool true) ∧ Below w.heap.size w w' := by
  clear w0_0 w0_1 w1
  go_enter Try.func14, Try.ntmps14
  go_wp2_with (first | (go_at_call 26; (with_reducible refine (lToMoment _ _ _).mono ?_); rintro e w' ⟨rfl, hb⟩; have hs := hb.size; (try simp at hs); (try have hz : w.heap.size < w'.heap.size := by omega); (try have hz1 : w.heap.size + 1 < w'.heap.size := by omega); (try have hz2 : w.heap.size + 1 + 1 < w'.heap.size := by omega); obtain ⟨hc, hf⟩ := bcell hb) | (go_at_call 41; (with_reducible refine (sSidereal _ _ _ _).mono ?_); rintro e w' ⟨rfl, hb⟩; have hs := hb.size; (try simp at hs); (try have hz : w.heap.size < w'.heap.size := by omega); (try have hz1 : w.heap.size + 1 < w'.heap.size := by omega); (try have hz2 : w.heap.size + 1 + 1 < w'.heap.size := by omega); obtain ⟨hc, hf⟩ := bcell hb) | (go_at_call 42; (with_reducible refine (iSidereal _ _ _ _).mono ?_); rintro e w' ⟨rfl, hb⟩; have hs := hb.size; (try simp at hs); (try have hz : w.heap.size < w'.heap.size := by omega); (try have hz1 : w.heap.size + 1 < w'.heap.size := by omega); (try have hz2 : w.heap.size + 1 + 1 < w'.heap.size := by omega); obtain ⟨hc, hf⟩ := bcell hb))
  go_ret
  exact ⟨rfl, by (repeat (first | exact Below.refl _ _ | assumption | (refine Below.drewN ?_ _) | (refine Below.drew ?_) | (refine Below.alloc ?_ (by first | (simp; done) | (simp; omega) | omega) _) | (refine Below.setCell ?_ (by first | (simp; done) | (simp; omega) | omega) _) | (refine Below.trans ?_ (Below.mono (by assumption) (by first | (simp; done) | (simp; omega) | omega)))))⟩
end Go.Proofs.Ytiipncjlaalogaa
