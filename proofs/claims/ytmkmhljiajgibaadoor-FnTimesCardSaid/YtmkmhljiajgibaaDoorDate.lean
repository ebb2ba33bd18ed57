/-
  Contracts of the functions on dates and moments, over the smaller ones.
-/
import Derived.Deep.RegionHeld3
import Derived.Deep.DrawnRows
import Derived.Test.YtmkmhljiajgibaaDoorTime
namespace Go.Proofs.YtmkmhljiajgibaaDoor
set_option linter.unusedVariables false
set_option linter.unusedSimpArgs false
open Go.RowKit

theorem iDateOf (D : Int) (w : World) :
    Calls Tryd.prog 7 #[.int .i64 D] w fun e w' => e = .returned (.tuple #[.int .i64 (dY D), .int .i64 (dM D), .int .i64 (dD D), .int .i64 (dC D)]) ∧ w = w' := by
  cases c : inB D 0 99999
  · obtain ⟨e1, e2, e3, e4⟩ := date_no c
    rw [e1, e2, e3, e4]; clear e1 e2 e3 e4
    go_enter Tryd.func7, Tryd.ntmps7
    go_wp2_with (go_at_call 29; (with_reducible refine (iWithin _ _ _ _).mono ?_); rintro e w' ⟨rfl, rfl⟩)
    exact bodyPost_ret (v := .tuple #[.int .i64 0, .int .i64 0, .int .i64 0, .int .i64 2]) (by simp [results, Tryd.results7, go_sem]) rfl ⟨rfl, rfl⟩
  · have b := inB_t c
    have key : ∀ y m d : Int, IsDate D y m d → Ending.returned (.tuple #[.int .i64 y, .int .i64 m, .int .i64 d, .int .i64 0]) = Ending.returned (.tuple #[.int .i64 (dY D), .int .i64 (dM D), .int .i64 (dD D), .int .i64 (dC D)]) := by
      intro y m d h
      obtain ⟨e1, e2, e3, e4⟩ := date_eq c h
      rw [e1, e2, e3, e4]
    have K := Lib.hid key
    clear key
    generalize dY D = RY at *
    generalize dM D = RM at *
    generalize dD D = RD at *
    generalize dC D = RC at *
    go_enter Tryd.func7, Tryd.ntmps7
    go_wp2_with (go_at_call 29; (with_reducible refine (iWithin _ _ _ _).mono ?_); rintro e w' ⟨rfl, rfl⟩)
    go_loop [0, 6] (fun t q => ∃ k : Int, 2000 ≤ k ∧ k ≤ 2273 ∧ 0 ≤ D - dby k ∧ t = .int .i64 (D - dby k) ∧ q = .int .i64 k) (fun t _ => (intOf t).toNat)
    case atStart => exact ⟨2000, by omega, by omega, by rw [dby_0]; omega, by rw [dby_0, Int.sub_zero], rfl⟩
    case round =>
      obtain ⟨k, hk1, hk2, hk3, rfl, rfl⟩ := hrel
      have kb := dby_bd k hk1
      have lb := ylen_bd k
      by_cases hlt : ylen k ≤ D - dby k
      · have hs := Lib.hid (dby_succ k hk1)
        have hk4 : k + 1 ≤ 2273 := by
          by_cases g : k + 1 ≤ 2273
          · exact g
          · obtain rfl : k = 2273 := by omega
            have h1 := dby_top
            have h2 := hs.out
            rw [show (2273 : Int) + 1 = 2274 from rfl, h1] at h2
            omega
        go_wp2_with (go_at_call 30; (with_reducible refine (iYlen _ _ (by omega) (by omega)).mono ?_); rintro e w' ⟨rfl, rfl⟩)
        go_round
        case rel => exact ⟨k + 1, by omega, by omega, by rw [hs.out]; omega, val_i (by rw [hs.out]; omega), rfl⟩
        case measure => simp [intOf]; omega
      · go_wp2_with (go_at_call 30; (with_reducible refine (iYlen _ _ (by omega) (by omega)).mono ?_); rintro e w' ⟨rfl, rfl⟩)
        go_loop [0, 7] (fun t q => ∃ j : Int, 1 ≤ j ∧ j ≤ 12 ∧ 0 ≤ D - dby k - cum k j ∧ t = .int .i64 (D - dby k - cum k j) ∧ q = .int .i64 j) (fun t _ => (intOf t).toNat)
        case atStart => exact ⟨1, by omega, by omega, by rw [cum_1]; omega, by rw [cum_1, Int.sub_zero], rfl⟩
        case round =>
          obtain ⟨j, hj1, hj2, hj3, rfl, rfl⟩ := hrel
          have jb := cum_bd k j hj1
          have ml := mlen_bd k j
          by_cases hl2 : mlen k j ≤ D - dby k - cum k j
          · have hs := Lib.hid (cum_succ k j hj1)
            have hj4 : j + 1 ≤ 12 := by
              by_cases g : j + 1 ≤ 12
              · exact g
              · obtain rfl : j = 12 := by omega
                have h1 := cum_13 k
                have h2 := hs.out
                rw [show (12 : Int) + 1 = 13 from rfl, h1] at h2
                omega
            go_wp2_with (go_at_call 31; (with_reducible refine (iMlen _ _ _ (by omega) (by omega) (by omega) (by omega)).mono ?_); rintro e w' ⟨rfl, rfl⟩)
            go_round
            case rel => exact ⟨j + 1, by omega, by omega, by rw [hs.out]; omega, val_i (by rw [hs.out]; omega), rfl⟩
            case measure => simp [intOf]; omega
          · go_wp2_with (go_at_call 31; (with_reducible refine (iMlen _ _ _ (by omega) (by omega) (by omega) (by omega)).mono ?_); rintro e w' ⟨rfl, rfl⟩)
            exact bodyPost_ret (v := .tuple #[.int .i64 k, .int .i64 j, .int .i64 (D - dby k - cum k j + 1), .int .i64 0]) (by simp [results, Tryd.results7, go_sem]) rfl ⟨K.out _ _ _ ⟨hk1, hj1, hj2, by omega, by omega, by omega⟩, rfl⟩
theorem iMilliOf (d m : Int) (w : World) (h1 : 0 ≤ d) (h2 : d ≤ 99999) (h3 : 0 ≤ m) (h4 : m ≤ 86399999) :
    Calls Tryd.prog 35 #[.agg #[.int .i64 d, .int .i64 m]] w fun e w' => e = .returned (.int .i64 (allOf d m)) ∧ Below w.heap.size w w' := by
  unfold allOf
  go_enter Tryd.func35, Tryd.ntmps35
  go_wp2
  go_ret
  exact ⟨rfl, by (repeat (first | exact Below.refl _ _ | assumption | (refine Below.drewN ?_ _) | (refine Below.drew ?_) | (refine Below.alloc ?_ (by first | (simp; done) | (simp; omega) | omega) _) | (refine Below.setCell ?_ (by first | (simp; done) | (simp; omega) | omega) _) | (refine Below.trans ?_ (Below.mono (by assumption) (by first | (simp; done) | (simp; omega) | omega)))))⟩
theorem iMomentOf (t : Int) (w : World) (h1 : 0 ≤ t) (h2 : t ≤ 9223372036854775807) :
    Calls Tryd.prog 36 #[.int .i64 t] w fun e w' => e = .returned (.agg #[.int .i64 (t / 86400000), .int .i64 (t % 86400000)]) ∧ Below w.heap.size w w' := by
  go_enter Tryd.func36, Tryd.ntmps36
  go_wp2
  exact bodyPost_ret (v := .agg #[.int .i64 (t / 86400000), .int .i64 (t % 86400000)]) (by simp [results, Tryd.results36, go_sem]) rfl ⟨rfl, by (repeat (first | exact Below.refl _ _ | assumption | (refine Below.drewN ?_ _) | (refine Below.drew ?_) | (refine Below.alloc ?_ (by first | (simp; done) | (simp; omega) | omega) _) | (refine Below.setCell ?_ (by first | (simp; done) | (simp; omega) | omega) _) | (refine Below.trans ?_ (Below.mono (by assumption) (by first | (simp; done) | (simp; omega) | omega)))))⟩
theorem iMomentAfter (d m s : Int) (w : World) (h1 : -9223372036854775808 ≤ s) (h2 : s ≤ 9223372036854775807) :
    Calls Tryd.prog 15 #[.agg #[.int .i64 d, .int .i64 m], .int .i64 s] w fun e w' => e = .returned (.tuple #[.agg #[.int .i64 (mafD d m s), .int .i64 (mafM d m s)], .int .i64 (mafC d m s)]) ∧ Below w.heap.size w w' := by
  cases c1 : okM d m
  · skip
    have e1 : mafC d m s = 1 := by simp [mafC, c1]
    have e2 : mafD d m s = 0 := by simp [mafD, e1]
    have e3 : mafM d m s = 0 := by simp [mafM, e1]
    rw [e1, e2, e3]; clear e1 e2 e3
    go_enter Tryd.func15, Tryd.ntmps15
    go_wp2_with (first | (go_at_call 33; (with_reducible refine (iValidMoment _ _ _).mono ?_); rintro e w' ⟨rfl, hb⟩; have hs := hb.size; (try simp at hs); (try have hz : w.heap.size < w'.heap.size := by omega); (try have hy : w.heap.size < w'.heap.size + 1 := by omega); (try have hyy : w.heap.size < w'.heap.size + 1 + 1 := by omega); (try have hz1 : w.heap.size + 1 < w'.heap.size := by omega); (try have hn : ¬ w'.heap.size = w.heap.size := by omega); (try have hn1 : ¬ w'.heap.size = w.heap.size + 1 := by omega); (try have hz2 : w.heap.size + 1 + 1 < w'.heap.size := by omega); (try have hq := Nat.lt_of_lt_of_le (by assumption) hs); (try have hq := Nat.lt_of_succ_le hs); obtain ⟨hc, hf⟩ := bcell hb; (try simp only [World.size_drew, World.cell?_drew, World.frozen?_drew, World.heap_drewN, World.cell?_drewN, World.frozen?_drewN] at hc hf)) | (go_at_call 29; (with_reducible refine (iWithin _ _ _ _).mono ?_); rintro e w' ⟨rfl, rfl⟩))
    exact bodyPost_ret (v := .tuple #[.agg #[.int .i64 0, .int .i64 0], .int .i64 1]) (by simp [results, Tryd.results15, go_sem, *]) rfl ⟨rfl, by (repeat (first | exact Below.refl _ _ | assumption | (refine Below.drewN ?_ _) | (refine Below.drew ?_) | (refine Below.alloc ?_ (by first | (simp; done) | (simp; omega) | omega) _) | (refine Below.setCell ?_ (by first | (simp; done) | (simp; omega) | omega) _) | (refine Below.trans ?_ (Below.mono (by assumption) (by first | (simp; done) | (simp; omega) | omega)))))⟩
  cases c2 : inB s (-8640000000000) 8640000000000
  · skip
    have e1 : mafC d m s = 2 := by simp [mafC, c1, c2]
    have e2 : mafD d m s = 0 := by simp [mafD, e1]
    have e3 : mafM d m s = 0 := by simp [mafM, e1]
    rw [e1, e2, e3]; clear e1 e2 e3
    go_enter Tryd.func15, Tryd.ntmps15
    go_wp2_with (first | (go_at_call 33; (with_reducible refine (iValidMoment _ _ _).mono ?_); rintro e w' ⟨rfl, hb⟩; have hs := hb.size; (try simp at hs); (try have hz : w.heap.size < w'.heap.size := by omega); (try have hy : w.heap.size < w'.heap.size + 1 := by omega); (try have hyy : w.heap.size < w'.heap.size + 1 + 1 := by omega); (try have hz1 : w.heap.size + 1 < w'.heap.size := by omega); (try have hn : ¬ w'.heap.size = w.heap.size := by omega); (try have hn1 : ¬ w'.heap.size = w.heap.size + 1 := by omega); (try have hz2 : w.heap.size + 1 + 1 < w'.heap.size := by omega); (try have hq := Nat.lt_of_lt_of_le (by assumption) hs); (try have hq := Nat.lt_of_succ_le hs); obtain ⟨hc, hf⟩ := bcell hb; (try simp only [World.size_drew, World.cell?_drew, World.frozen?_drew, World.heap_drewN, World.cell?_drewN, World.frozen?_drewN] at hc hf)) | (go_at_call 29; (with_reducible refine (iWithin _ _ _ _).mono ?_); rintro e w' ⟨rfl, rfl⟩))
    exact bodyPost_ret (v := .tuple #[.agg #[.int .i64 0, .int .i64 0], .int .i64 2]) (by simp [results, Tryd.results15, go_sem, *]) rfl ⟨rfl, by (repeat (first | exact Below.refl _ _ | assumption | (refine Below.drewN ?_ _) | (refine Below.drew ?_) | (refine Below.alloc ?_ (by first | (simp; done) | (simp; omega) | omega) _) | (refine Below.setCell ?_ (by first | (simp; done) | (simp; omega) | omega) _) | (refine Below.trans ?_ (Below.mono (by assumption) (by first | (simp; done) | (simp; omega) | omega)))))⟩
  have b1 := okM_t c1
  have b2 := inB_t c2
  have b3 : 0 ≤ allOf d m ∧ allOf d m ≤ 8639999999999 := by unfold allOf; omega
  cases c3 : inB (allOf d m + s) 0 8639999999999
  · skip
    have e1 : mafC d m s = 6 := by simp [mafC, c1, c2, c3]
    have e2 : mafD d m s = 0 := by simp [mafD, e1]
    have e3 : mafM d m s = 0 := by simp [mafM, e1]
    rw [e1, e2, e3]; clear e1 e2 e3
    go_enter Tryd.func15, Tryd.ntmps15
    go_wp2_with (first | (go_at_call 33; (with_reducible refine (iValidMoment _ _ _).mono ?_); rintro e w' ⟨rfl, hb⟩; have hs := hb.size; (try simp at hs); (try have hz : w.heap.size < w'.heap.size := by omega); (try have hy : w.heap.size < w'.heap.size + 1 := by omega); (try have hyy : w.heap.size < w'.heap.size + 1 + 1 := by omega); (try have hz1 : w.heap.size + 1 < w'.heap.size := by omega); (try have hn : ¬ w'.heap.size = w.heap.size := by omega); (try have hn1 : ¬ w'.heap.size = w.heap.size + 1 := by omega); (try have hz2 : w.heap.size + 1 + 1 < w'.heap.size := by omega); (try have hq := Nat.lt_of_lt_of_le (by assumption) hs); (try have hq := Nat.lt_of_succ_le hs); obtain ⟨hc, hf⟩ := bcell hb; (try simp only [World.size_drew, World.cell?_drew, World.frozen?_drew, World.heap_drewN, World.cell?_drewN, World.frozen?_drewN] at hc hf)) | (go_at_call 29; (with_reducible refine (iWithin _ _ _ _).mono ?_); rintro e w' ⟨rfl, rfl⟩) | (go_at_call 35; (with_reducible refine (iMilliOf _ _ _ (by omega) (by omega) (by omega) (by omega)).mono ?_); rintro e w' ⟨rfl, hb⟩; have hs := hb.size; (try simp at hs); (try have hz : w.heap.size < w'.heap.size := by omega); (try have hy : w.heap.size < w'.heap.size + 1 := by omega); (try have hyy : w.heap.size < w'.heap.size + 1 + 1 := by omega); (try have hz1 : w.heap.size + 1 < w'.heap.size := by omega); (try have hn : ¬ w'.heap.size = w.heap.size := by omega); (try have hn1 : ¬ w'.heap.size = w.heap.size + 1 := by omega); (try have hz2 : w.heap.size + 1 + 1 < w'.heap.size := by omega); (try have hq := Nat.lt_of_lt_of_le (by assumption) hs); (try have hq := Nat.lt_of_succ_le hs); obtain ⟨hc, hf⟩ := bcell hb; (try simp only [World.size_drew, World.cell?_drew, World.frozen?_drew, World.heap_drewN, World.cell?_drewN, World.frozen?_drewN] at hc hf)))
    exact bodyPost_ret (v := .tuple #[.agg #[.int .i64 0, .int .i64 0], .int .i64 6]) (by simp [results, Tryd.results15, go_sem, *]) rfl ⟨rfl, by (repeat (first | exact Below.refl _ _ | assumption | (refine Below.drewN ?_ _) | (refine Below.drew ?_) | (refine Below.alloc ?_ (by first | (simp; done) | (simp; omega) | omega) _) | (refine Below.setCell ?_ (by first | (simp; done) | (simp; omega) | omega) _) | (refine Below.trans ?_ (Below.mono (by assumption) (by first | (simp; done) | (simp; omega) | omega)))))⟩
  have b4 := inB_t c3
  have e1 : mafC d m s = 0 := by simp [mafC, c1, c2, c3]
  have e2 : mafD d m s = (allOf d m + s) / 86400000 := by simp [mafD, e1]
  have e3 : mafM d m s = (allOf d m + s) % 86400000 := by simp [mafM, e1]
  rw [e1, e2, e3]; clear e1 e2 e3
  go_enter Tryd.func15, Tryd.ntmps15
  go_wp2_with (first | (go_at_call 33; (with_reducible refine (iValidMoment _ _ _).mono ?_); rintro e w' ⟨rfl, hb⟩; have hs := hb.size; (try simp at hs); (try have hz : w.heap.size < w'.heap.size := by omega); (try have hy : w.heap.size < w'.heap.size + 1 := by omega); (try have hyy : w.heap.size < w'.heap.size + 1 + 1 := by omega); (try have hz1 : w.heap.size + 1 < w'.heap.size := by omega); (try have hn : ¬ w'.heap.size = w.heap.size := by omega); (try have hn1 : ¬ w'.heap.size = w.heap.size + 1 := by omega); (try have hz2 : w.heap.size + 1 + 1 < w'.heap.size := by omega); (try have hq := Nat.lt_of_lt_of_le (by assumption) hs); (try have hq := Nat.lt_of_succ_le hs); obtain ⟨hc, hf⟩ := bcell hb; (try simp only [World.size_drew, World.cell?_drew, World.frozen?_drew, World.heap_drewN, World.cell?_drewN, World.frozen?_drewN] at hc hf)) | (go_at_call 29; (with_reducible refine (iWithin _ _ _ _).mono ?_); rintro e w' ⟨rfl, rfl⟩) | (go_at_call 35; (with_reducible refine (iMilliOf _ _ _ (by omega) (by omega) (by omega) (by omega)).mono ?_); rintro e w' ⟨rfl, hb⟩; have hs := hb.size; (try simp at hs); (try have hz : w.heap.size < w'.heap.size := by omega); (try have hy : w.heap.size < w'.heap.size + 1 := by omega); (try have hyy : w.heap.size < w'.heap.size + 1 + 1 := by omega); (try have hz1 : w.heap.size + 1 < w'.heap.size := by omega); (try have hn : ¬ w'.heap.size = w.heap.size := by omega); (try have hn1 : ¬ w'.heap.size = w.heap.size + 1 := by omega); (try have hz2 : w.heap.size + 1 + 1 < w'.heap.size := by omega); (try have hq := Nat.lt_of_lt_of_le (by assumption) hs); (try have hq := Nat.lt_of_succ_le hs); obtain ⟨hc, hf⟩ := bcell hb; (try simp only [World.size_drew, World.cell?_drew, World.frozen?_drew, World.heap_drewN, World.cell?_drewN, World.frozen?_drewN] at hc hf)) | (go_at_call 36; (with_reducible refine (iMomentOf _ _ (by omega) (by omega)).mono ?_); rintro e w' ⟨rfl, hb⟩; have hs := hb.size; (try simp at hs); (try have hz : w.heap.size < w'.heap.size := by omega); (try have hy : w.heap.size < w'.heap.size + 1 := by omega); (try have hyy : w.heap.size < w'.heap.size + 1 + 1 := by omega); (try have hz1 : w.heap.size + 1 < w'.heap.size := by omega); (try have hn : ¬ w'.heap.size = w.heap.size := by omega); (try have hn1 : ¬ w'.heap.size = w.heap.size + 1 := by omega); (try have hz2 : w.heap.size + 1 + 1 < w'.heap.size := by omega); (try have hq := Nat.lt_of_lt_of_le (by assumption) hs); (try have hq := Nat.lt_of_succ_le hs); obtain ⟨hc, hf⟩ := bcell hb; (try simp only [World.size_drew, World.cell?_drew, World.frozen?_drew, World.heap_drewN, World.cell?_drewN, World.frozen?_drewN] at hc hf)))
  exact bodyPost_ret (v := .tuple #[.agg #[.int .i64 ((allOf d m + s) / 86400000), .int .i64 ((allOf d m + s) % 86400000)], .int .i64 0]) (by simp [results, Tryd.results15, go_sem, *]) rfl ⟨rfl, by (repeat (first | exact Below.refl _ _ | assumption | (refine Below.drewN ?_ _) | (refine Below.drew ?_) | (refine Below.alloc ?_ (by first | (simp; done) | (simp; omega) | omega) _) | (refine Below.setCell ?_ (by first | (simp; done) | (simp; omega) | omega) _) | (refine Below.trans ?_ (Below.mono (by assumption) (by first | (simp; done) | (simp; omega) | omega)))))⟩
theorem iMilliBetween (d m e n : Int) (w : World) :
    Calls Tryd.prog 16 #[.agg #[.int .i64 d, .int .i64 m], .agg #[.int .i64 e, .int .i64 n]] w fun z w' => z = .returned (.tuple #[.int .i64 (mibA d m e n), .int .i64 (mibC d m e n)]) ∧ Below w.heap.size w w' := by
  unfold mibA mibC
  cases c1 : okM d m
  · go_enter Tryd.func16, Tryd.ntmps16
    go_wp2_with (go_at_call 33; (with_reducible refine (iValidMoment _ _ _).mono ?_); rintro e w' ⟨rfl, hb⟩; have hs := hb.size; (try simp at hs); (try have hz : w.heap.size < w'.heap.size := by omega); (try have hy : w.heap.size < w'.heap.size + 1 := by omega); (try have hyy : w.heap.size < w'.heap.size + 1 + 1 := by omega); (try have hz1 : w.heap.size + 1 < w'.heap.size := by omega); (try have hn : ¬ w'.heap.size = w.heap.size := by omega); (try have hn1 : ¬ w'.heap.size = w.heap.size + 1 := by omega); (try have hz2 : w.heap.size + 1 + 1 < w'.heap.size := by omega); (try have hq := Nat.lt_of_lt_of_le (by assumption) hs); (try have hq := Nat.lt_of_succ_le hs); obtain ⟨hc, hf⟩ := bcell hb; (try simp only [World.size_drew, World.cell?_drew, World.frozen?_drew, World.heap_drewN, World.cell?_drewN, World.frozen?_drewN] at hc hf))
    go_ret2
    exact ⟨rfl, by (repeat (first | exact Below.refl _ _ | assumption | (refine Below.drewN ?_ _) | (refine Below.drew ?_) | (refine Below.alloc ?_ (by first | (simp; done) | (simp; omega) | omega) _) | (refine Below.setCell ?_ (by first | (simp; done) | (simp; omega) | omega) _) | (refine Below.trans ?_ (Below.mono (by assumption) (by first | (simp; done) | (simp; omega) | omega)))))⟩
  cases c2 : okM e n
  · go_enter Tryd.func16, Tryd.ntmps16
    go_wp2_with (go_at_call 33; (with_reducible refine (iValidMoment _ _ _).mono ?_); rintro e w' ⟨rfl, hb⟩; have hs := hb.size; (try simp at hs); (try have hz : w.heap.size < w'.heap.size := by omega); (try have hy : w.heap.size < w'.heap.size + 1 := by omega); (try have hyy : w.heap.size < w'.heap.size + 1 + 1 := by omega); (try have hz1 : w.heap.size + 1 < w'.heap.size := by omega); (try have hn : ¬ w'.heap.size = w.heap.size := by omega); (try have hn1 : ¬ w'.heap.size = w.heap.size + 1 := by omega); (try have hz2 : w.heap.size + 1 + 1 < w'.heap.size := by omega); (try have hq := Nat.lt_of_lt_of_le (by assumption) hs); (try have hq := Nat.lt_of_succ_le hs); obtain ⟨hc, hf⟩ := bcell hb; (try simp only [World.size_drew, World.cell?_drew, World.frozen?_drew, World.heap_drewN, World.cell?_drewN, World.frozen?_drewN] at hc hf))
    go_ret2
    exact ⟨rfl, by (repeat (first | exact Below.refl _ _ | assumption | (refine Below.drewN ?_ _) | (refine Below.drew ?_) | (refine Below.alloc ?_ (by first | (simp; done) | (simp; omega) | omega) _) | (refine Below.setCell ?_ (by first | (simp; done) | (simp; omega) | omega) _) | (refine Below.trans ?_ (Below.mono (by assumption) (by first | (simp; done) | (simp; omega) | omega)))))⟩
  have b1 := okM_t c1
  have b2 := okM_t c2
  have b3 : 0 ≤ allOf d m ∧ allOf d m ≤ 8639999999999 := by unfold allOf; omega
  have b4 : 0 ≤ allOf e n ∧ allOf e n ≤ 8639999999999 := by unfold allOf; omega
  have e9 : IntKind.i64.wrap (allOf e n - allOf d m) = allOf e n - allOf d m := IntWalk.i64_in _ (by omega)
  go_enter Tryd.func16, Tryd.ntmps16
  go_wp2_with (go_at_call 33; (with_reducible refine (iValidMoment _ _ _).mono ?_); rintro e w' ⟨rfl, hb⟩; have hs := hb.size; (try simp at hs); (try have hz : w.heap.size < w'.heap.size := by omega); (try have hy : w.heap.size < w'.heap.size + 1 := by omega); (try have hyy : w.heap.size < w'.heap.size + 1 + 1 := by omega); (try have hz1 : w.heap.size + 1 < w'.heap.size := by omega); (try have hn : ¬ w'.heap.size = w.heap.size := by omega); (try have hn1 : ¬ w'.heap.size = w.heap.size + 1 := by omega); (try have hz2 : w.heap.size + 1 + 1 < w'.heap.size := by omega); (try have hq := Nat.lt_of_lt_of_le (by assumption) hs); (try have hq := Nat.lt_of_succ_le hs); obtain ⟨hc, hf⟩ := bcell hb; (try simp only [World.size_drew, World.cell?_drew, World.frozen?_drew, World.heap_drewN, World.cell?_drewN, World.frozen?_drewN] at hc hf))
  go_region_held3 (fun w' => w'.cell? ⟨w.heap.size, 0, none⟩ = some (.int .i64 d) ∧ w'.cell? ⟨w.heap.size, 1, none⟩ = some (.int .i64 m) ∧ w'.cell? ⟨w.heap.size + 1, 0, none⟩ = some (.int .i64 e) ∧ w'.cell? ⟨w.heap.size + 1, 1, none⟩ = some (.int .i64 n)) (simp [*, World.cell?_alloc_some, World.cell?_setCell_far, World.cell?_alloc_past, nn_e2, nn_e3, nn_e4, nn_f2, nn_f3, nn_f4, nn_l2, nn_l3, nn_l4, nn_m3, nn_m4, nn_k4]) (first | (go_at_call 35; (with_reducible refine (iMilliOf _ _ _ (by omega) (by omega) (by omega) (by omega)).mono ?_); rintro e w' ⟨rfl, hb⟩; have hs := hb.size; (try simp at hs); (try have hz : w.heap.size < w'.heap.size := by omega); (try have hy : w.heap.size < w'.heap.size + 1 := by omega); (try have hyy : w.heap.size < w'.heap.size + 1 + 1 := by omega); (try have hz1 : w.heap.size + 1 < w'.heap.size := by omega); (try have hn : ¬ w'.heap.size = w.heap.size := by omega); (try have hn1 : ¬ w'.heap.size = w.heap.size + 1 := by omega); (try have hz2 : w.heap.size + 1 + 1 < w'.heap.size := by omega); (try have hq := Nat.lt_of_lt_of_le (by assumption) hs); (try have hq := Nat.lt_of_succ_le hs); obtain ⟨hc, hf⟩ := bcell hb; (try simp only [World.size_drew, World.cell?_drew, World.frozen?_drew, World.heap_drewN, World.cell?_drewN, World.frozen?_drewN] at hc hf)))
  go_wp2
  go_ret2
  exact ⟨rfl, by (repeat (first | exact Below.refl _ _ | assumption | (refine Below.drewN ?_ _) | (refine Below.drew ?_) | (refine Below.alloc ?_ (by first | (simp; done) | (simp; omega) | omega) _) | (refine Below.setCell ?_ (by first | (simp; done) | (simp; omega) | omega) _) | (refine Below.trans ?_ (Below.mono (by assumption) (by first | (simp; done) | (simp; omega) | omega)))))⟩
end Go.Proofs.YtmkmhljiajgibaaDoor
