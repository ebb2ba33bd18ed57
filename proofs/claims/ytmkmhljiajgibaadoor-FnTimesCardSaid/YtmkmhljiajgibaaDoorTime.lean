/-
  Contracts of the functions on days, dates and moments: what each computes, over whatever arguments.
-/
import Derived.Test.YtmkmhljiajgibaaDoorRows
import Derived.WalkKit
import Derived.BigQuiet
import Derived.Deep.QuietTactic
import Derived.WalkLawsBesides
import Derived.Test.YtmkmhljiajgibaaDoorBase
import Derived.Test.YtmkmhljiajgibaaDoorMt
import Derived.Lib.Hide
namespace Go.Proofs.YtmkmhljiajgibaaDoor
set_option linter.unusedVariables false
set_option linter.unusedSimpArgs false
open Go.RowKit

theorem iLeap (y : Int) (w : World) (h1 : 0 ≤ y) (h2 : y ≤ 9223372036854775807) :
    Calls Tryd.prog 48 #[.int .i64 y] w fun e w' => e = .returned (.bool (leap y)) ∧ w = w' := by
  unfold leap
  cases a : (y % 4 == 0) <;> cases b : (y % 100 != 0) <;> cases c : (y % 400 == 0)
  all_goals
    go_enter Tryd.func48, Tryd.ntmps48
    go_wp2
    go_ret
    exact ⟨rfl, rfl⟩
theorem iYlen (y : Int) (w : World) (h1 : 0 ≤ y) (h2 : y ≤ 9223372036854775807) :
    Calls Tryd.prog 30 #[.int .i64 y] w fun e w' => e = .returned (.int .i64 (ylen y)) ∧ w = w' := by
  cases h : leap y
  · have e : ylen y = 365 := by simp [ylen, h]
    rw [e]; clear e
    go_enter Tryd.func30, Tryd.ntmps30
    go_wp2_with (go_at_call 48; (with_reducible refine (iLeap _ _ (by omega) (by omega)).mono ?_); rintro e w' ⟨rfl, rfl⟩)
    go_ret
    exact ⟨rfl, rfl⟩
  · have e : ylen y = 366 := by simp [ylen, h]
    rw [e]; clear e
    go_enter Tryd.func30, Tryd.ntmps30
    go_wp2_with (go_at_call 48; (with_reducible refine (iLeap _ _ (by omega) (by omega)).mono ?_); rintro e w' ⟨rfl, rfl⟩)
    go_ret
    exact ⟨rfl, rfl⟩
theorem iMlen (y m : Int) (w : World) (h1 : 0 ≤ y) (h2 : y ≤ 9223372036854775807) (h3 : 1 ≤ m) (h4 : m ≤ 12) :
    Calls Tryd.prog 31 #[.int .i64 y, .int .i64 m] w fun e w' => e = .returned (.int .i64 (mlen y m)) ∧ w = w' := by
  have b := ylen_bd y
  by_cases hm : m = 4 ∨ m = 6 ∨ m = 9 ∨ m = 11
  · have e : mlen y m = 30 := by simp [mlen, hm]
    rw [e]; clear e
    rcases hm with rfl | rfl | rfl | rfl
    all_goals
      go_enter Tryd.func31, Tryd.ntmps31
      go_wp2
      go_ret
      exact ⟨rfl, rfl⟩
  · by_cases h5 : m = 2
    · have e : mlen y m = ylen y - 337 := by simp [mlen, h5]
      rw [e]; clear e
      subst h5
      clear hm
      go_enter Tryd.func31, Tryd.ntmps31
      go_wp2_with (go_at_call 30; (with_reducible refine (iYlen _ _ (by omega) (by omega)).mono ?_); rintro e w' ⟨rfl, rfl⟩)
      go_ret
      exact ⟨rfl, rfl⟩
    · have e : mlen y m = 31 := by simp [mlen, hm, h5]
      rw [e]; clear e
      have a1 : m ≠ 4 ∧ m ≠ 6 ∧ m ≠ 9 ∧ m ≠ 11 := by omega
      clear hm
      obtain ⟨a1, a2, a3, a4⟩ := a1
      go_enter Tryd.func31, Tryd.ntmps31
      go_wp2
      go_ret
      exact ⟨rfl, rfl⟩
theorem iValidMoment (d m : Int) (w : World) :
    Calls Tryd.prog 33 #[.agg #[.int .i64 d, .int .i64 m]] w fun e w' => e = .returned (.bool (okM d m)) ∧ Below w.heap.size w w' := by
  unfold okM
  cases h1 : inB d 0 99999 <;> cases h2 : inB m 0 86399999
  all_goals
    go_enter Tryd.func33, Tryd.ntmps33
    go_wp2_with (go_at_call 29; (with_reducible refine (iWithin _ _ _ _).mono ?_); rintro e w' ⟨rfl, rfl⟩)
    go_ret
    exact ⟨rfl, by (repeat (first | exact Below.refl _ _ | assumption | (refine Below.drewN ?_ _) | (refine Below.drew ?_) | (refine Below.alloc ?_ (by first | (simp; done) | (simp; omega) | omega) _) | (refine Below.setCell ?_ (by first | (simp; done) | (simp; omega) | omega) _) | (refine Below.trans ?_ (Below.mono (by assumption) (by first | (simp; done) | (simp; omega) | omega)))))⟩
/-- The day of the week, with the error's code. -/
def wdA (d : Int) : Int := if inB d 0 99999 then (d + 5) % 7 else 0
def wdC (d : Int) : Int := if inB d 0 99999 then 0 else 2
theorem iWeekDay (d : Int) (w : World) :
    Calls Tryd.prog 10 #[.int .i64 d] w fun e w' => e = .returned (.tuple #[.int .i64 (wdA d), .int .i64 (wdC d)]) ∧ w = w' := by
  cases h1 : inB d 0 99999
  · have e1 : wdA d = 0 := by simp [wdA, h1]
    have e2 : wdC d = 2 := by simp [wdC, h1]
    rw [e1, e2]; clear e1 e2
    go_enter Tryd.func10, Tryd.ntmps10
    go_wp2_with (go_at_call 29; (with_reducible refine (iWithin _ _ _ _).mono ?_); rintro e w' ⟨rfl, rfl⟩)
    go_ret2
    exact ⟨rfl, rfl⟩
  · have e1 : wdA d = (d + 5) % 7 := by simp [wdA, h1]
    have e2 : wdC d = 0 := by simp [wdC, h1]
    rw [e1, e2]; clear e1 e2
    have b1 := inB_t h1
    go_enter Tryd.func10, Tryd.ntmps10
    go_wp2_with (go_at_call 29; (with_reducible refine (iWithin _ _ _ _).mono ?_); rintro e w' ⟨rfl, rfl⟩)
    go_ret2
    exact ⟨rfl, rfl⟩
theorem iDaysIn (y m : Int) (w : World) :
    Calls Tryd.prog 9 #[.int .i64 y, .int .i64 m] w fun e w' => e = .returned (.tuple #[.int .i64 (dinA y m), .int .i64 (dinC y m)]) ∧ w = w' := by
  unfold dinA dinC dinB
  cases c1 : inB y 2000 2273
  · go_enter Tryd.func9, Tryd.ntmps9
    go_wp2_with (first | (go_at_call 29; (with_reducible refine (iWithin _ _ _ _).mono ?_); rintro e w' ⟨rfl, rfl⟩) | (go_at_call 31; (with_reducible refine (iMlen _ _ _ (by omega) (by omega) (by omega) (by omega)).mono ?_); rintro e w' ⟨rfl, rfl⟩))
    go_ret2
    exact ⟨rfl, rfl⟩
  cases c2 : inB m 1 12
  · go_enter Tryd.func9, Tryd.ntmps9
    go_wp2_with (first | (go_at_call 29; (with_reducible refine (iWithin _ _ _ _).mono ?_); rintro e w' ⟨rfl, rfl⟩) | (go_at_call 31; (with_reducible refine (iMlen _ _ _ (by omega) (by omega) (by omega) (by omega)).mono ?_); rintro e w' ⟨rfl, rfl⟩))
    go_ret2
    exact ⟨rfl, rfl⟩
  · have b1 := inB_t c1
    have b2 := inB_t c2
    go_enter Tryd.func9, Tryd.ntmps9
    go_wp2_with (first | (go_at_call 29; (with_reducible refine (iWithin _ _ _ _).mono ?_); rintro e w' ⟨rfl, rfl⟩) | (go_at_call 31; (with_reducible refine (iMlen _ _ _ (by omega) (by omega) (by omega) (by omega)).mono ?_); rintro e w' ⟨rfl, rfl⟩))
    go_ret2
    exact ⟨rfl, rfl⟩
theorem iDayOf (y m d : Int) (w : World) :
    Calls Tryd.prog 8 #[.int .i64 y, .int .i64 m, .int .i64 d] w fun e w' => e = .returned (.tuple #[.int .i64 (dayA y m d), .int .i64 (dayC y m d)]) ∧ w = w' := by
  cases c0 : dinB y m
  · have hA : dinA y m = 0 := by simp [dinA, c0]
    have hC : dinC y m = 2 := by simp [dinC, c0]
    have e1 : dayA y m d = 0 := by simp [dayA, dayB, c0]
    have e2 : dayC y m d = 2 := by simp [dayC, dayB, c0]
    rw [e1, e2]; clear e1 e2
    go_enter Tryd.func8, Tryd.ntmps8
    go_wp2_with (first | (go_at_call 9; (with_reducible refine (iDaysIn _ _ _).mono ?_); rintro e w' ⟨rfl, rfl⟩) | (go_at_call 29; (with_reducible refine (iWithin _ _ _ _).mono ?_); rintro e w' ⟨rfl, rfl⟩))
    go_ret2
    exact ⟨rfl, rfl⟩
  have hA : dinA y m = mlen y m := by simp [dinA, c0]
  have hC : dinC y m = 0 := by simp [dinC, c0]
  cases c3 : inB d 1 (mlen y m)
  · have e1 : dayA y m d = 0 := by simp [dayA, dayB, c0, c3]
    have e2 : dayC y m d = 2 := by simp [dayC, dayB, c0, c3]
    rw [e1, e2]; clear e1 e2
    go_enter Tryd.func8, Tryd.ntmps8
    go_wp2_with (first | (go_at_call 9; (with_reducible refine (iDaysIn _ _ _).mono ?_); rintro e w' ⟨rfl, rfl⟩) | (go_at_call 29; (with_reducible refine (iWithin _ _ _ _).mono ?_); rintro e w' ⟨rfl, rfl⟩))
    go_ret2
    exact ⟨rfl, rfl⟩
  have b0 : inB y 2000 2273 = true ∧ inB m 1 12 = true := by unfold dinB at c0; simpa using c0
  have b1 := inB_t b0.1
  have b2 := inB_t b0.2
  have b3 := inB_t c3
  have mb := mlen_bd y m
  have yb := dby_bd y b1.1
  have cb := cum_bd y m b2.1
  have e : ∃ A C, A = dayA y m d ∧ C = dayC y m d ∧ ((dnum y m d ≤ 99999 ∧ A = dnum y m d ∧ C = 0) ∨ (99999 < dnum y m d ∧ A = 0 ∧ C = 2)) := by
    refine ⟨_, _, rfl, rfl, ?_⟩
    unfold dayA dayC dayB
    rw [c0, c3]
    by_cases h : dnum y m d ≤ 99999
    · left; rw [inB_mk ⟨by unfold dnum; omega, h⟩]; exact ⟨h, rfl, rfl⟩
    · right; rw [inB_no (by omega)]; exact ⟨by omega, rfl, rfl⟩
  obtain ⟨A, C, hA', hC', e⟩ := e
  rw [← hA', ← hC']
  have E := Lib.hid e
  clear e hA' hC' b0
  go_enter Tryd.func8, Tryd.ntmps8
  go_wp2_with (first | (go_at_call 9; (with_reducible refine (iDaysIn _ _ _).mono ?_); rintro e w' ⟨rfl, rfl⟩) | (go_at_call 29; (with_reducible refine (iWithin _ _ _ _).mono ?_); rintro e w' ⟨rfl, rfl⟩))
  go_loop [10, 11] (fun n q => ∃ k : Int, 2000 ≤ k ∧ k ≤ y ∧ n = .int .i64 (d - 1 + dby k) ∧ q = .int .i64 k) (fun _ q => (y - intOf q).toNat)
  case atStart => exact ⟨2000, by omega, by omega, by rw [dby_0, Int.add_zero], rfl⟩
  case round =>
    obtain ⟨k, hk1, hk2, rfl, rfl⟩ := hrel
    have kb := dby_bd k hk1
    have lb := ylen_bd k
    by_cases hlt : k < y
    · have hs := Lib.hid (dby_succ k hk1)
      go_wp2_with (go_at_call 30; (with_reducible refine (iYlen _ _ (by omega) (by omega)).mono ?_); rintro e w' ⟨rfl, rfl⟩)
      go_round
      case rel => exact ⟨k + 1, by omega, by omega, val_i (by rw [hs.out]; omega), rfl⟩
      case measure => simp [intOf]; omega
    · obtain rfl : y = k := by omega
      go_wp2
      go_loop [10, 12] (fun n q => ∃ k : Int, 1 ≤ k ∧ k ≤ m ∧ n = .int .i64 (d - 1 + dby y + cum y k) ∧ q = .int .i64 k) (fun _ q => (m - intOf q).toNat)
      case atStart => exact ⟨1, by omega, by omega, by rw [cum_1, Int.add_zero], rfl⟩
      case round =>
        obtain ⟨j, hj1, hj2, rfl, rfl⟩ := hrel
        have jb := cum_bd y j hj1
        have ml := mlen_bd y j
        by_cases hl2 : j < m
        · have hs := Lib.hid (cum_succ y j hj1)
          go_wp2_with (go_at_call 31; (with_reducible refine (iMlen _ _ _ (by omega) (by omega) (by omega) (by omega)).mono ?_); rintro e w' ⟨rfl, rfl⟩)
          go_round
          case rel => exact ⟨j + 1, by omega, by omega, val_i (by rw [hs.out]; omega), rfl⟩
          case measure => simp [intOf]; omega
        · obtain rfl : m = j := by omega
          by_cases ht : d - 1 + dby y + cum y m ≤ 99999
          · go_wp2
            go_ret2
            rcases E.out with ⟨g1, g2, g3⟩ | ⟨g1, g2, g3⟩
            · exact ⟨ret_ii (by rw [g2]; rfl) g3.symm, rfl⟩
            · unfold dnum at g1; omega
          · go_wp2
            go_ret2
            rcases E.out with ⟨g1, g2, g3⟩ | ⟨g1, g2, g3⟩
            · unfold dnum at g1; omega
            · exact ⟨ret_ii g2.symm g3.symm, rfl⟩
/-- What the reference's search for a day answers. -/
def finA (y m d : Int) : Int := if dayB y m d then dnum y m d else 0
def finB (y m d : Int) : Bool := dayB y m d && inB (dnum y m d) 0 99999
end Go.Proofs.YtmkmhljiajgibaaDoor
