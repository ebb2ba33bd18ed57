/-
  Contracts of the check value.
-/
import Derived.Test.YtaakkdpfgejkiaaRows
import Derived.WalkKit
import Derived.WalkLawsBesides
import Derived.Outline
import Derived.Lib.Hide
import Derived.Test.YtaakkdpfgejkiaaBase
import Derived.Test.YtaakkdpfgejkiaaMstr
namespace Go.Proofs.Ytaakkdpfgejkiaa
set_option linter.unusedVariables false
set_option linter.unusedSimpArgs false
open Go.RowKit

theorem crcBits_step (j X : Nat) : crcBits (j + 1) X = crcBit (crcBits j X) := rfl
theorem crcN_step (s : ByteArray) (c k : Nat) : crcN s c (k + 1) = crcBits 8 (crcN s c k ^^^ (bAt s k).toNat * 256) := rfl
theorem ret_i1 {a b : Int} (h : a = b) : Ending.returned (.int .i64 a) = .returned (.int .i64 b) := by rw [h]
def crcF (s : ByteArray) (c : Int) : Int := if inB c 0 65535 then (crcN s c.toNat s.size : Int) else 0
set_option maxHeartbeats 2000000 in
theorem iCrcIn (s : ByteArray) (c : Int) (w : World) (hs : s.size ≤ maxLen) (b1 : 0 ≤ c) (b2 : c ≤ 65535) :
    Calls Try.prog 8 #[.string s, .int .i64 c] w fun e w' => e = .returned (.int .i64 (crcN s c.toNat s.size : Int)) ∧ w = w' := by
  unfold maxLen at hs
  have HC0 : Hid (c = (crcN s c.toNat 0 : Nat)) := by show c = (c.toNat : Int); omega
  have hw : inB c 0 65535 = true := inB_mk ⟨b1, b2⟩
  go_enter Try.func8, Try.ntmps8
  go_wp2_with (go_at_call 12; (with_reducible refine (iWithin _ _ _ _).mono ?_); rintro e w' ⟨rfl, rfl⟩)
  go_loop [5, 6] (fun x i => ∃ (k : Nat) (X : Int), k ≤ s.size ∧ i = .int .i64 k ∧ x = .int .i64 X ∧ 0 ≤ X ∧ X ≤ 65535 ∧ Hid (X = (crcN s c.toNat k : Nat))) (fun _ i => s.size - (intOf i).toNat)
  case atStart => exact ⟨0, c, by omega, rfl, rfl, by omega, by omega, HC0.out⟩
  case round =>
    obtain ⟨k, X, hk, rfl, rfl, X1, X2, HX⟩ := hrel
    by_cases hlt : k < s.size
    · have e := bAt_eq s k hlt
      obtain ⟨hb1, hb2⟩ := bAt_bd s k
      have hB : bAt s k = ((bAt s k).toNat : Nat) := by omega
      obtain ⟨Z, hxor, Z1, Z2, hZ⟩ := crc_inI HX.out hB X2 hb2
      have HZ := Lib.hid hZ
      clear hZ hB
      obtain ⟨bn, hbn⟩ : ∃ bn, (bAt s k).toNat = bn := ⟨_, rfl⟩
      rw [hbn] at HZ
      have Hbn := Lib.hid hbn
      clear hbn
      obtain ⟨B, hBe⟩ : ∃ B, bAt s k = B := ⟨_, rfl⟩
      rw [hBe] at hxor e hb1 hb2
      clear hBe
      go_wp2
      clear hxor e hb1 hb2 X1 X2
      go_loop [5, 7] (fun u v => ∃ (j : Nat) (Y : Int), j ≤ 8 ∧ v = .int .i64 j ∧ u = .int .i64 Y ∧ 0 ≤ Y ∧ Y ≤ 65535 ∧ Hid (Y = (crcBits j (crcN s c.toNat k ^^^ bn * 256) : Nat))) (fun _ v => 8 - (intOf v).toNat)
      case atStart => exact ⟨0, Z, by omega, rfl, rfl, Z1, Z2, HZ.out⟩
      case round =>
        obtain ⟨j, Y, hj, rfl, rfl, Y1, Y2, HY⟩ := hrel
        clear Z1 Z2
        by_cases hj8 : j < 8
        · by_cases hy : 65535 < Y * 2
          · obtain ⟨Z', V, ha, z1, z2, hb, v1, v2, hV⟩ := crc_hiI HY.out hy Y2
            have HV := Lib.hid hV
            clear hV
            go_wp2
            go_round
            case rel => exact ⟨j + 1, V, by omega, by go_num, rfl, v1, v2, by show _ = _; rw [crcBits_step, HV.out]⟩
            case measure => simp [intOf]; omega
          · have HV := Lib.hid (crc_loI HY.out hy)
            go_wp2
            go_round
            case rel => exact ⟨j + 1, Y * 2, by omega, by go_num, rfl, by omega, by omega, by show _ = _; rw [crcBits_step, HV.out]⟩
            case measure => simp [intOf]; omega
        · obtain rfl : j = 8 := by omega
          go_wp2
          go_round
          case rel => exact ⟨k + 1, Y, by omega, by go_num, rfl, Y1, Y2, by show _ = _; rw [crcN_step, Hbn.out, HY.out]⟩
          case measure => simp [intOf]; omega
    · obtain rfl : k = s.size := by omega
      go_wp2
      go_ret
      exact ⟨ret_i1 HX.out, rfl⟩
theorem iCrc (s : ByteArray) (c : Int) (w : World) (hs : s.size ≤ maxLen) :
    Calls Try.prog 8 #[.string s, .int .i64 c] w fun e w' => e = .returned (.int .i64 (crcF s c)) ∧ w = w' := by
  unfold crcF
  cases h1 : inB c 0 65535
  · go_enter Try.func8, Try.ntmps8
    go_wp2_with (go_at_call 12; (with_reducible refine (iWithin _ _ _ _).mono ?_); rintro e w' ⟨rfl, rfl⟩)
    go_ret
    exact ⟨rfl, rfl⟩
  · exact iCrcIn s c w hs (inB_t h1).1 (inB_t h1).2
set_option maxHeartbeats 2000000 in
theorem sCrcIn (s : ByteArray) (c : Int) (w : World) (hs : s.size ≤ maxLen) (b1 : 0 ≤ c) (b2 : c ≤ 65535) :
    Calls Try.prog 11 #[.string s, .int .i64 c] w fun e w' => e = .returned (.int .i64 (crcN s c.toNat s.size : Int)) ∧ w = w' := by
  unfold maxLen at hs
  have HC0 : Hid (c = (crcN s c.toNat 0 : Nat)) := by show c = (c.toNat : Int); omega
  skip
  go_enter Try.func11, Try.ntmps11
  go_wp2
  go_loop [1, 5] (fun x i => ∃ (k : Nat) (X : Int), k ≤ s.size ∧ i = .int .i64 k ∧ x = .int .i64 X ∧ 0 ≤ X ∧ X ≤ 65535 ∧ Hid (X = (crcN s c.toNat k : Nat))) (fun _ i => s.size - (intOf i).toNat)
  case atStart => exact ⟨0, c, by omega, rfl, rfl, by omega, by omega, HC0.out⟩
  case round =>
    obtain ⟨k, X, hk, rfl, rfl, X1, X2, HX⟩ := hrel
    by_cases hlt : k < s.size
    · have e := bAt_eq s k hlt
      obtain ⟨hb1, hb2⟩ := bAt_bd s k
      have hB : bAt s k = ((bAt s k).toNat : Nat) := by omega
      obtain ⟨Z, hxor, Z1, Z2, hZ⟩ := crc_inI HX.out hB X2 hb2
      have HZ := Lib.hid hZ
      clear hZ hB
      obtain ⟨bn, hbn⟩ : ∃ bn, (bAt s k).toNat = bn := ⟨_, rfl⟩
      rw [hbn] at HZ
      have Hbn := Lib.hid hbn
      clear hbn
      obtain ⟨B, hBe⟩ : ∃ B, bAt s k = B := ⟨_, rfl⟩
      rw [hBe] at hxor e hb1 hb2
      clear hBe
      go_wp2
      clear hxor e hb1 hb2 X1 X2
      go_loop [1, 6] (fun u v => ∃ (j : Nat) (Y : Int), j ≤ 8 ∧ v = .int .i64 j ∧ u = .int .i64 Y ∧ 0 ≤ Y ∧ Y ≤ 65535 ∧ Hid (Y = (crcBits j (crcN s c.toNat k ^^^ bn * 256) : Nat))) (fun _ v => 8 - (intOf v).toNat)
      case atStart => exact ⟨0, Z, by omega, rfl, rfl, Z1, Z2, HZ.out⟩
      case round =>
        obtain ⟨j, Y, hj, rfl, rfl, Y1, Y2, HY⟩ := hrel
        clear Z1 Z2
        by_cases hj8 : j < 8
        · by_cases hy : 65535 < Y * 2
          · obtain ⟨Z', V, ha, z1, z2, hb, v1, v2, hV⟩ := crc_hiI HY.out hy Y2
            have HV := Lib.hid hV
            clear hV
            go_wp2
            go_round
            case rel => exact ⟨j + 1, V, by omega, by go_num, rfl, v1, v2, by show _ = _; rw [crcBits_step, HV.out]⟩
            case measure => simp [intOf]; omega
          · have HV := Lib.hid (crc_loI HY.out hy)
            go_wp2
            go_round
            case rel => exact ⟨j + 1, Y * 2, by omega, by go_num, rfl, by omega, by omega, by show _ = _; rw [crcBits_step, HV.out]⟩
            case measure => simp [intOf]; omega
        · obtain rfl : j = 8 := by omega
          go_wp2
          go_round
          case rel => exact ⟨k + 1, Y, by omega, by go_num, rfl, Y1, Y2, by show _ = _; rw [crcN_step, Hbn.out, HY.out]⟩
          case measure => simp [intOf]; omega
    · obtain rfl : k = s.size := by omega
      go_wp2
      go_ret
      exact ⟨ret_i1 HX.out, rfl⟩
theorem sCrc (s : ByteArray) (c : Int) (w : World) (hs : s.size ≤ maxLen) :
    Calls Try.prog 7 #[.string s, .int .i64 c] w fun e w' => e = .returned (.int .i64 (crcF s c)) ∧ w = w' := by
  unfold crcF
  cases h1 : inB c 0 65535
  · go_enter Try.func7, Try.ntmps7
    go_wp2_with (go_at_call 10; (with_reducible refine (sIn _ _ _ _).mono ?_); rintro e w' ⟨rfl, rfl⟩)
    go_ret
    exact ⟨rfl, rfl⟩
  · have b := inB_t h1
    go_enter Try.func7, Try.ntmps7
    go_wp2_with (first | (go_at_call 10; (with_reducible refine (sIn _ _ _ _).mono ?_); rintro e w' ⟨rfl, rfl⟩) | (go_at_call 11; (with_reducible refine (sCrcIn s c _ hs b.1 b.2).mono ?_); rintro e w' ⟨rfl, rfl⟩))
    go_ret
    exact ⟨rfl, rfl⟩
theorem walk_FnExactCrc16 (a0 : ByteArray) (a1 : Int) (w : World) (w0 : a0.size ≤ maxLen) (w1 : (Lit.int .i64 a1).wf = true) :
    Calls Try.prog 4 #[.string a0, .int .i64 a1] w fun e w' => e = .returned (.bool true) ∧ Below w.heap.size w w' := by
  clear w1
  by_cases h : a0.size ≤ 1048576
  · have HW := Lib.hid w0
    clear w0
    go_enter Try.func4, Try.ntmps4
    go_wp2_with (first | (go_at_call 7; (with_reducible refine (sCrc a0 _ _ HW.out).mono ?_); rintro e w' ⟨rfl, rfl⟩) | (go_at_call 8; (with_reducible refine (iCrc a0 _ _ HW.out).mono ?_); rintro e w' ⟨rfl, rfl⟩))
    go_ret
    exact ⟨rfl, by (repeat (first | exact Below.refl _ _ | assumption | (refine Below.drewN ?_ _) | (refine Below.drew ?_) | (refine Below.alloc ?_ (by first | (simp; done) | (simp; omega) | omega) _) | (refine Below.setCell ?_ (by first | (simp; done) | (simp; omega) | omega) _) | (refine Below.trans ?_ (Below.mono (by assumption) (by first | (simp; done) | (simp; omega) | omega)))))⟩
  · unfold maxLen at w0
    have h : 1048576 < a0.size := by omega
    go_enter Try.func4, Try.ntmps4
    go_wp2
    go_ret
    exact ⟨rfl, by (repeat (first | exact Below.refl _ _ | assumption | (refine Below.drewN ?_ _) | (refine Below.drew ?_) | (refine Below.alloc ?_ (by first | (simp; done) | (simp; omega) | omega) _) | (refine Below.setCell ?_ (by first | (simp; done) | (simp; omega) | omega) _) | (refine Below.trans ?_ (Below.mono (by assumption) (by first | (simp; done) | (simp; omega) | omega)))))⟩
end Go.Proofs.Ytaakkdpfgejkiaa
