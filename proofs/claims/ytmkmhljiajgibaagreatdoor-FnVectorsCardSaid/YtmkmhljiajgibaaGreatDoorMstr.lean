/-
  Bytes of texts: plain facts, no program in sight.
-/
import Derived.Test.YtmkmhljiajgibaaGreatDoorMa
import Derived.Laws.BitsAllLaws
namespace Go.Proofs.YtmkmhljiajgibaaGreatDoor
set_option linter.unusedVariables false
set_option linter.unusedSimpArgs false
/-- The k-th byte of a text, as a number. -/
def bAt (s : ByteArray) (k : Nat) : Int := ((s.data.toList.getD k 0).toNat : Int)
theorem bAt_eq (s : ByteArray) (k : Nat) (h : k < s.size) : (s[k].toNat : Int) = bAt s k := by
  unfold bAt
  have e : s.data.toList.getD k 0 = s[k] := by
    have h2 : k < s.data.toList.length := by simpa using h
    have h3 : k < s.data.size := h
    have h4 : s.data[k]? = some s.data[k] := Array.getElem?_eq_getElem h3
    rw [show s.data.toList.getD k 0 = s.data.toList[k] by rw [List.getD, Array.getElem?_toList, h4]; rfl]; rfl
  rw [e]
theorem bAt_bd (s : ByteArray) (k : Nat) : 0 ≤ bAt s k ∧ bAt s k ≤ 255 := by
  unfold bAt
  have := (s.data.toList.getD k 0).toNat_lt
  omega
/-- A small letter or a digit. -/
def nmI (c : Int) : Bool := decide ((97 ≤ c ∧ c ≤ 122) ∨ (48 ≤ c ∧ c ≤ 57))
/-- Is the text a name? -/
def isNm (s : ByteArray) : Bool := decide (1 ≤ s.size ∧ s.size ≤ 10 ∧ 97 ≤ bAt s 0 ∧ bAt s 0 ≤ 122 ∧ ∀ j, j < s.size → nmI (bAt s j) = true)
/-- The check value. -/
def crcBit (c : Nat) : Nat := if 2 * c > 65535 then (2 * c &&& 65535) ^^^ 4129 else 2 * c
def crcBits : Nat → Nat → Nat
  | 0, c => c
  | n + 1, c => crcBit (crcBits n c)
def crcN (s : ByteArray) (c : Nat) : Nat → Nat
  | 0 => c
  | k + 1 => crcBits 8 (crcN s c k ^^^ (bAt s k).toNat * 256)
theorem crcBit_lt {c : Nat} (h : c < 65536) : crcBit c < 65536 := by
  unfold crcBit
  split
  · have h1 : 2 * c &&& 65535 < 2 ^ 16 := Nat.and_lt_two_pow _ (by omega)
    have h2 : (2 * c &&& 65535) ^^^ 4129 < 2 ^ 16 := Nat.xor_lt_two_pow h1 (by omega)
    omega
  · omega
theorem crcBits_lt (n : Nat) {c : Nat} (h : c < 65536) : crcBits n c < 65536 := by
  induction n with
  | zero => exact h
  | succ n ih => exact crcBit_lt ih
theorem crcIn_lt {c : Nat} (s : ByteArray) (k : Nat) (h : c < 65536) : c ^^^ (bAt s k).toNat * 256 < 65536 := by
  have hb := bAt_bd s k
  exact Nat.xor_lt_two_pow (n := 16) h (by omega)
theorem crcN_lt (s : ByteArray) {c : Nat} (h : c < 65536) (k : Nat) : crcN s c k < 65536 := by
  induction k with
  | zero => exact h
  | succ k ih => exact crcBits_lt 8 (crcIn_lt s k ih)
theorem i64_xor_nat (a b : Nat) (ha : a < 9223372036854775808) (hb : b < 9223372036854775808) : bits .xor .i64 (a : Int) (b : Int) = ((a ^^^ b : Nat) : Int) := by
  have hx : a ^^^ b < 2 ^ 63 := Nat.xor_lt_two_pow (by omega) (by omega)
  show IntKind.i64.wrap ((BitVec.ofInt 64 (a : Int) ^^^ BitVec.ofInt 64 (b : Int)).toNat : Int) = _
  rw [BitVec.toNat_xor, ofInt_u64 a (by omega), ofInt_u64 b (by omega), IntKind.wrap_i64]
  omega
theorem i64_and_nat (a b : Nat) (ha : a < 9223372036854775808) (hb : b < 9223372036854775808) : bits .and .i64 (a : Int) (b : Int) = ((a &&& b : Nat) : Int) := by
  have hx : a &&& b < 2 ^ 63 := Nat.and_lt_two_pow _ (by omega)
  show IntKind.i64.wrap ((BitVec.ofInt 64 (a : Int) &&& BitVec.ofInt 64 (b : Int)).toNat : Int) = _
  rw [BitVec.toNat_and, ofInt_u64 a (by omega), ofInt_u64 b (by omega), IntKind.wrap_i64]
  omega
/-- One step of the check value, where the sum is too large. -/
theorem crc_hi {y : Nat} (hy : 65535 < 2 * y) (h : y < 65536) : ∃ z : Nat, bits .and .i64 ((y : Int) * 2) 65535 = (z : Int) ∧ z < 65536 ∧ ∃ x : Nat, bits .xor .i64 (z : Int) 4129 = (x : Int) ∧ crcBit y = x := by
  have hz1 : 2 * y &&& 65535 < 2 ^ 16 := Nat.and_lt_two_pow (2 * y) (by decide)
  have ha := i64_and_nat (2 * y) 65535 (by omega) (by omega)
  have e : ((2 * y : Nat) : Int) = (y : Int) * 2 := by omega
  rw [e] at ha
  refine ⟨2 * y &&& 65535, ha, by omega, (2 * y &&& 65535) ^^^ 4129, i64_xor_nat _ 4129 (by omega) (by omega), ?_⟩
  unfold crcBit
  rw [if_pos (by omega)]
theorem crc_in {x b : Nat} (hx : x < 65536) (hb : b ≤ 255) : ∃ z : Nat, bits .xor .i64 (x : Int) ((b : Int) * 256) = (z : Int) ∧ z < 65536 ∧ x ^^^ b * 256 = z := by
  have h1 := i64_xor_nat x (b * 256) (by omega) (by omega)
  have e : ((b * 256 : Nat) : Int) = (b : Int) * 256 := by omega
  rw [e] at h1
  exact ⟨_, h1, Nat.xor_lt_two_pow (n := 16) (by omega) (by omega), rfl⟩
/-- The same over integers that are not seen to be naturals. -/
theorem crc_hiI {Y : Int} {y : Nat} (e : Y = y) (hy : 65535 < Y * 2) (h : Y ≤ 65535) : ∃ Z V : Int, bits .and .i64 (Y * 2) 65535 = Z ∧ 0 ≤ Z ∧ Z ≤ 65535 ∧ bits .xor .i64 Z 4129 = V ∧ 0 ≤ V ∧ V ≤ 65535 ∧ V = crcBit y := by
  subst e
  obtain ⟨z, h1, h2, x, h3, h4⟩ := crc_hi (y := y) (by omega) (by omega)
  have h5 := crcBit_lt (c := y) (by omega)
  exact ⟨z, x, h1, by omega, by omega, h3, by omega, by omega, by rw [h4]⟩
theorem crc_loI {Y : Int} {y : Nat} (e : Y = y) (hy : ¬ 65535 < Y * 2) : Y * 2 = crcBit y := by
  subst e
  unfold crcBit
  rw [if_neg (by omega)]; omega
theorem crc_inI {X B : Int} {x b : Nat} (e : X = x) (eb : B = b) (hx : X ≤ 65535) (hb : B ≤ 255) : ∃ Z : Int, bits .xor .i64 X (B * 256) = Z ∧ 0 ≤ Z ∧ Z ≤ 65535 ∧ Z = ((x ^^^ b * 256 : Nat) : Int) := by
  subst e eb
  obtain ⟨z, h1, h2, h3⟩ := crc_in (x := x) (b := b) (by omega) (by omega)
  exact ⟨z, h1, by omega, by omega, by rw [h3]⟩
end Go.Proofs.YtmkmhljiajgibaaGreatDoor
