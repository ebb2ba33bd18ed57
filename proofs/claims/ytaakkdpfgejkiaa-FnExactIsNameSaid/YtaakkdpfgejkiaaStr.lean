/-
  Contracts of the functions on names.
-/
import Derived.Test.YtaakkdpfgejkiaaRows
import Derived.WalkKit
import Derived.WalkLawsBesides
import Derived.Outline
import Derived.Lib.Hide
import Derived.Test.YtaakkdpfgejkiaaBase
import Derived.Test.YtaakkdpfgejkiaaMstr
namespace Go.Proofs.Ytaakkdpfgejkiaa
set_option linter.unusedVariables false
set_option linter.unusedSimpArgs false
open Go.RowKit

theorem ret_b1 {a b : Bool} (h : a = b) : Ending.returned (.bool a) = .returned (.bool b) := by rw [h]
theorem isNm_yes {s : ByteArray} (h1 : 1 ≤ s.size) (h2 : s.size ≤ 10) (h3 : 97 ≤ bAt s 0) (h4 : bAt s 0 ≤ 122) (h5 : ∀ j, j < s.size → nmI (bAt s j) = true) : isNm s = true := decide_eq_true ⟨h1, h2, h3, h4, h5⟩
theorem isNm_no {s : ByteArray} (h : ¬ (1 ≤ s.size ∧ s.size ≤ 10 ∧ 97 ≤ bAt s 0 ∧ bAt s 0 ≤ 122 ∧ ∀ j, j < s.size → nmI (bAt s j) = true)) : isNm s = false := decide_eq_false h
theorem nmI_t {c : Int} (h : (97 ≤ c ∧ c ≤ 122) ∨ (48 ≤ c ∧ c ≤ 57)) : nmI c = true := decide_eq_true h
theorem nmI_f {c : Int} (h : ¬ ((97 ≤ c ∧ c ≤ 122) ∨ (48 ≤ c ∧ c ≤ 57))) : ¬ nmI c = true := by rw [show nmI c = false from decide_eq_false h]; simp
def smI (c : Int) : Bool := decide (97 ≤ c ∧ c ≤ 122)
def dgI (c : Int) : Bool := decide (48 ≤ c ∧ c ≤ 57)
theorem smI_t {c : Int} (h : 97 ≤ c ∧ c ≤ 122) : smI c = true := decide_eq_true h
theorem smI_f {c : Int} (h : ¬ (97 ≤ c ∧ c ≤ 122)) : smI c = false := decide_eq_false h
theorem dgI_t {c : Int} (h : 48 ≤ c ∧ c ≤ 57) : dgI c = true := decide_eq_true h
theorem dgI_f {c : Int} (h : ¬ (48 ≤ c ∧ c ≤ 57)) : dgI c = false := decide_eq_false h
theorem sSmall (c : Int) (w : World) : Calls Try.prog 13 #[.int .u8 c] w fun e w' => e = .returned (.bool (smI c)) ∧ w = w' := by
  by_cases h1 : 97 ≤ c
  · by_cases h2 : c ≤ 122
    · rw [smI_t ⟨h1, h2⟩]
      go_enter Try.func13, Try.ntmps13
      go_wp2
      go_ret
      exact ⟨rfl, rfl⟩
    · rw [smI_f (by omega)]
      go_enter Try.func13, Try.ntmps13
      go_wp2
      go_ret
      exact ⟨rfl, rfl⟩
  · rw [smI_f (by omega)]
    go_enter Try.func13, Try.ntmps13
    go_wp2
    go_ret
    exact ⟨rfl, rfl⟩
theorem sDigit (c : Int) (w : World) : Calls Try.prog 14 #[.int .u8 c] w fun e w' => e = .returned (.bool (dgI c)) ∧ w = w' := by
  by_cases h1 : 48 ≤ c
  · by_cases h2 : c ≤ 57
    · rw [dgI_t ⟨h1, h2⟩]
      go_enter Try.func14, Try.ntmps14
      go_wp2
      go_ret
      exact ⟨rfl, rfl⟩
    · rw [dgI_f (by omega)]
      go_enter Try.func14, Try.ntmps14
      go_wp2
      go_ret
      exact ⟨rfl, rfl⟩
  · rw [dgI_f (by omega)]
    go_enter Try.func14, Try.ntmps14
    go_wp2
    go_ret
    exact ⟨rfl, rfl⟩
set_option maxHeartbeats 1000000 in
theorem iIsName (s : ByteArray) (w : World) (hs : s.size ≤ maxLen) :
    Calls Try.prog 6 #[.string s] w fun e w' => e = .returned (.bool (isNm s)) ∧ w = w' := by
  unfold maxLen at hs
  by_cases h1 : s.size < 1
  · rw [isNm_no (by omega)]
    go_enter Try.func6, Try.ntmps6
    go_wp2
    go_ret
    exact ⟨rfl, rfl⟩
  by_cases h2 : 10 < s.size
  · rw [isNm_no (by omega)]
    go_enter Try.func6, Try.ntmps6
    go_wp2
    go_ret
    exact ⟨rfl, rfl⟩
  have hz : 0 < s.size := by omega
  have b0 := bAt_eq s 0 hz
  by_cases h3 : bAt s 0 < 97
  · rw [isNm_no (by omega)]
    rw [← b0] at h3
    clear b0
    go_enter Try.func6, Try.ntmps6
    go_wp2
    go_ret
    exact ⟨rfl, rfl⟩
  by_cases h4 : 122 < bAt s 0
  · rw [isNm_no (by omega)]
    rw [← b0] at h3 h4
    clear b0
    go_enter Try.func6, Try.ntmps6
    go_wp2
    go_ret
    exact ⟨rfl, rfl⟩
  have K : Hid (97 ≤ bAt s 0 ∧ bAt s 0 ≤ 122) := ⟨by omega, by omega⟩
  rw [← b0] at h3 h4
  clear b0
  go_enter Try.func6, Try.ntmps6
  go_wp2
  clear h3 h4
  go_loop [3] (fun i => ∃ k : Nat, k ≤ s.size ∧ i = .int .i64 k ∧ Hid (∀ j, j < k → nmI (bAt s j) = true)) (fun i => s.size - (intOf i).toNat)
  case atStart => exact ⟨0, by omega, rfl, fun j hj => by omega⟩
  case round =>
    obtain ⟨k, hk, rfl, H⟩ := hrel
    by_cases hlt : k < s.size
    · have e := bAt_eq s k hlt
      by_cases g : (97 ≤ bAt s k ∧ bAt s k ≤ 122) ∨ (48 ≤ bAt s k ∧ bAt s k ≤ 57)
      · have H' : Hid (∀ j, j < k + 1 → nmI (bAt s j) = true) := fun j hj => by
          by_cases hjk : j < k
          · exact H.out j hjk
          · rw [show j = k by omega]; exact nmI_t g
        rw [← e] at g
        clear e
        rcases g with ⟨g1, g2⟩ | ⟨g1, g2⟩
        · go_wp2
          go_round
          case rel => exact ⟨k + 1, by omega, by go_num, H'⟩
          case measure => simp [intOf]; omega
        · go_wp2
          go_round
          case rel => exact ⟨k + 1, by omega, by go_num, H'⟩
          case measure => simp [intOf]; omega
      · have N : Hid (isNm s = false) := isNm_no (fun hh => nmI_f g (hh.2.2.2.2 k hlt))
        rw [← e] at g
        clear e
        have hg : (s[k].toNat : Int) < 48 ∨ (57 < (s[k].toNat : Int) ∧ (s[k].toNat : Int) < 97) ∨ 122 < (s[k].toNat : Int) := by omega
        clear g
        rcases hg with g1 | ⟨g1, g2⟩ | g1
        all_goals go_wp2
        all_goals (first | (go_ret; exact ⟨ret_b1 N.out.symm, rfl⟩) | (exfalso; simp at *; omega))
    · obtain rfl : k = s.size := by omega
      go_wp2
      go_ret
      exact ⟨ret_b1 (isNm_yes (by omega) (by omega) K.out.1 K.out.2 H.out).symm, rfl⟩
set_option maxHeartbeats 1000000 in
theorem sName (s : ByteArray) (w : World) (hs : s.size ≤ maxLen) :
    Calls Try.prog 9 #[.string s] w fun e w' => e = .returned (.bool (isNm s)) ∧ w = w' := by
  unfold maxLen at hs
  by_cases h1 : s.size < 1
  · rw [isNm_no (by omega)]
    obtain rfl : s = ⟨#[]⟩ := by
      obtain ⟨⟨l⟩⟩ := s
      cases l with
      | nil => rfl
      | cons c l => simp [ByteArray.size] at h1
    go_enter Try.func9, Try.ntmps9
    go_wp2_with (first | (go_at_call 13; (with_reducible refine (sSmall _ _).mono ?_); rintro e w' ⟨rfl, rfl⟩) | (go_at_call 14; (with_reducible refine (sDigit _ _).mono ?_); rintro e w' ⟨rfl, rfl⟩))
    go_ret
    exact ⟨rfl, rfl⟩
  have hz : 0 < s.size := by omega
  have he1 : ¬ s.toList = [] := by
    rw [ByteArray.toList_eq]
    intro e
    have : s.data.toList.length = 0 := by rw [e]; rfl
    have h3 : s.data.toList.length = s.size := rfl
    omega
  have he : s.toList.isEmpty = false := by cases hh : s.toList with | nil => exact absurd hh he1 | cons _ _ => rfl
  by_cases h2 : 10 < s.size
  · rw [isNm_no (by omega)]
    go_enter Try.func9, Try.ntmps9
    go_wp2_with (first | (go_at_call 13; (with_reducible refine (sSmall _ _).mono ?_); rintro e w' ⟨rfl, rfl⟩) | (go_at_call 14; (with_reducible refine (sDigit _ _).mono ?_); rintro e w' ⟨rfl, rfl⟩))
    go_ret
    exact ⟨rfl, rfl⟩
  have b0 := bAt_eq s 0 hz
  by_cases h3 : 97 ≤ bAt s 0 ∧ bAt s 0 ≤ 122
  · have K := Lib.hid h3
    have hsm := smI_t h3
    clear h3
    go_enter Try.func9, Try.ntmps9
    go_wp2_with (first | (go_at_call 13; (with_reducible refine (sSmall _ _).mono ?_); rintro e w' ⟨rfl, rfl⟩) | (go_at_call 14; (with_reducible refine (sDigit _ _).mono ?_); rintro e w' ⟨rfl, rfl⟩))
    clear b0 hsm
    go_loop [3] (fun i => ∃ k : Nat, k ≤ s.size ∧ i = .int .i64 k ∧ Hid (∀ j, j < k → nmI (bAt s j) = true)) (fun i => s.size - (intOf i).toNat)
    case atStart => exact ⟨0, by omega, rfl, fun j hj => by omega⟩
    case round =>
      obtain ⟨k, hk, rfl, H⟩ := hrel
      by_cases hlt : k < s.size
      · have e := bAt_eq s k hlt
        by_cases g : (97 ≤ bAt s k ∧ bAt s k ≤ 122) ∨ (48 ≤ bAt s k ∧ bAt s k ≤ 57)
        · have H' : Hid (∀ j, j < k + 1 → nmI (bAt s j) = true) := fun j hj => by
            by_cases hjk : j < k
            · exact H.out j hjk
            · rw [show j = k by omega]; exact nmI_t g
          rcases g with g | g
          · have d1 := smI_t g
            clear g
            go_wp2_with (first | (go_at_call 13; (with_reducible refine (sSmall _ _).mono ?_); rintro e w' ⟨rfl, rfl⟩) | (go_at_call 14; (with_reducible refine (sDigit _ _).mono ?_); rintro e w' ⟨rfl, rfl⟩))
            go_round
            case rel => exact ⟨k + 1, by omega, by go_num, H'⟩
            case measure => simp [intOf]; omega
          · have d1 := smI_f (c := bAt s k) (by omega)
            have d2 := dgI_t g
            clear g
            go_wp2_with (first | (go_at_call 13; (with_reducible refine (sSmall _ _).mono ?_); rintro e w' ⟨rfl, rfl⟩) | (go_at_call 14; (with_reducible refine (sDigit _ _).mono ?_); rintro e w' ⟨rfl, rfl⟩))
            go_round
            case rel => exact ⟨k + 1, by omega, by go_num, H'⟩
            case measure => simp [intOf]; omega
        · have N : Hid (isNm s = false) := isNm_no (fun hh => nmI_f g (hh.2.2.2.2 k hlt))
          have d1 := smI_f (c := bAt s k) (by omega)
          have d2 := dgI_f (c := bAt s k) (by omega)
          clear g
          go_wp2_with (first | (go_at_call 13; (with_reducible refine (sSmall _ _).mono ?_); rintro e w' ⟨rfl, rfl⟩) | (go_at_call 14; (with_reducible refine (sDigit _ _).mono ?_); rintro e w' ⟨rfl, rfl⟩))
          go_ret
          exact ⟨ret_b1 N.out.symm, rfl⟩
      · obtain rfl : k = s.size := by omega
        go_wp2_with (first | (go_at_call 13; (with_reducible refine (sSmall _ _).mono ?_); rintro e w' ⟨rfl, rfl⟩) | (go_at_call 14; (with_reducible refine (sDigit _ _).mono ?_); rintro e w' ⟨rfl, rfl⟩))
        go_ret
        exact ⟨ret_b1 (isNm_yes (by omega) (by omega) K.out.1 K.out.2 H.out).symm, rfl⟩
  · rw [isNm_no (by omega)]
    have hsm := smI_f h3
    clear h3
    go_enter Try.func9, Try.ntmps9
    go_wp2_with (first | (go_at_call 13; (with_reducible refine (sSmall _ _).mono ?_); rintro e w' ⟨rfl, rfl⟩) | (go_at_call 14; (with_reducible refine (sDigit _ _).mono ?_); rintro e w' ⟨rfl, rfl⟩))
    go_ret
    exact ⟨rfl, rfl⟩
theorem sIsName (s : ByteArray) (w : World) (hs : s.size ≤ maxLen) :
    Calls Try.prog 5 #[.string s] w fun e w' => e = .returned (.bool (isNm s)) ∧ w = w' := by
  go_enter Try.func5, Try.ntmps5
  go_wp2_with (go_at_call 9; (with_reducible refine (sName s _ hs).mono ?_); rintro e w' ⟨rfl, rfl⟩)
  go_ret
  exact ⟨rfl, rfl⟩
theorem walk_FnExactIsName (a0 : ByteArray) (w : World) (w0 : a0.size ≤ maxLen) :
    Calls Try.prog 3 #[.string a0] w fun e w' => e = .returned (.bool true) ∧ Below w.heap.size w w' := by
  by_cases h : a0.size ≤ 1048576
  · have HW := Lib.hid w0
    clear w0
    go_enter Try.func3, Try.ntmps3
    go_wp2_with (first | (go_at_call 5; (with_reducible refine (sIsName a0 _ HW.out).mono ?_); rintro e w' ⟨rfl, rfl⟩) | (go_at_call 6; (with_reducible refine (iIsName a0 _ HW.out).mono ?_); rintro e w' ⟨rfl, rfl⟩))
    go_ret
    exact ⟨rfl, by (repeat (first | exact Below.refl _ _ | assumption | (refine Below.drewN ?_ _) | (refine Below.drew ?_) | (refine Below.alloc ?_ (by first | (simp; done) | (simp; omega) | omega) _) | (refine Below.setCell ?_ (by first | (simp; done) | (simp; omega) | omega) _) | (refine Below.trans ?_ (Below.mono (by assumption) (by first | (simp; done) | (simp; omega) | omega)))))⟩
  · unfold maxLen at w0
    have h : 1048576 < a0.size := by omega
    go_enter Try.func3, Try.ntmps3
    go_wp2
    go_ret
    exact ⟨rfl, by (repeat (first | exact Below.refl _ _ | assumption | (refine Below.drewN ?_ _) | (refine Below.drew ?_) | (refine Below.alloc ?_ (by first | (simp; done) | (simp; omega) | omega) _) | (refine Below.setCell ?_ (by first | (simp; done) | (simp; omega) | omega) _) | (refine Below.trans ?_ (Below.mono (by assumption) (by first | (simp; done) | (simp; omega) | omega)))))⟩
end Go.Proofs.Ytaakkdpfgejkiaa
