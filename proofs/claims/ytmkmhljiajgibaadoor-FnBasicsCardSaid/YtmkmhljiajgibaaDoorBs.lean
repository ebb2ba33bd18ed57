/-
  The law on basics.
-/
import Derived.Test.YtmkmhljiajgibaaDoorMbs
import Derived.Test.YtmkmhljiajgibaaDoorHelp
import Derived.Deep.RegionHeld3
namespace Go.Proofs.YtmkmhljiajgibaaDoor
set_option linter.unusedVariables false
set_option linter.unusedSimpArgs false
open Go.RowKit
open Go.Lib (decDigits itoa)

def NumsDrawn (w : World) (e : Ending) (w' : World) : Prop := ∃ a b : Int, e = .returned (.tuple #[.int .i64 a, .int .i64 b]) ∧ (-100000 ≤ a ∧ a ≤ 3600000000) ∧ (1 ≤ b ∧ b ≤ 5000) ∧ Below w.heap.size w w'
theorem sR8Numbers (a0 : Option Addr) (n c : Nat) (zs : List Int) (w : World) (R : RowB w w.heap.size a0 n zs) (hn : n ≤ 1048576) :
    Calls Tryd.prog 17 #[.slice a0 n c] w (NumsDrawn w) := by
  have RA := Lib.hid R
  have HN := Lib.hid hn
  clear hn R
  go_enter Tryd.func17, Tryd.ntmps17
  go_wp2_with fail
  (with_reducible refine (sFromB _ _ _ _ w.heap.size _ RA.out (by omega) HN.out).mono ?_)
  rintro e w0 ⟨rfl, hs0, hb0, hlt0⟩
  go_wp2_with fail
  (with_reducible refine (sPick _ _ _ _ _ hs0 (by omega) (by omega) (by omega)).mono ?_)
  rintro e w1 ⟨x, rfl, ⟨x1, x2⟩, hs1, hb1⟩
  go_wp2_with fail
  (with_reducible refine (sPick _ _ _ _ _ hs1 (by omega) (by omega) (by omega)).mono ?_)
  rintro e w2 ⟨y, rfl, ⟨y1, y2⟩, hs2, hb2⟩
  obtain ⟨P, hP⟩ : ∃ P, x * y = P := ⟨_, rfl⟩
  have P1 : 0 ≤ P := by rw [← hP]; exact Int.mul_nonneg x1 y1
  have P2 : P ≤ 3600000000 := by
    rw [← hP]
    have := Int.mul_le_mul (show x ≤ 60000 by omega) (show y ≤ 60000 by omega) y1 (by omega)
    omega
  have q1 : IntKind.i64.wrap P = P := IntWalk.i64_in _ (by omega)
  go_wp2_with fail
  (with_reducible refine (sPick _ _ _ _ _ hs2 (by omega) (by omega) (by omega)).mono ?_)
  rintro e w3 ⟨z, rfl, ⟨z1, z2⟩, hs3, hb3⟩
  go_wp2
  go_ret2
  exact ⟨_, _, rfl, ⟨by omega, by omega⟩, ⟨by omega, by omega⟩, hb0.trans (((hb1.trans hb2).trans hb3).below (Nat.le_refl _) hb0.size)⟩
theorem lR8AbsN (n A : Int) (w : World) (h1 : -9223372036854775807 ≤ n) (h2 : n ≤ 9223372036854775807) (h : ab n = A) :
    Calls Tryd.prog 20 #[.int .i64 n] w fun e w' => e = .returned (.int .i64 A) ∧ w = w' := by
  unfold ab at h
  by_cases c : n < 0
  · rw [if_pos c] at h
    subst h
    go_enter Tryd.func20, Tryd.ntmps20
    go_wp2
    go_ret
    exact ⟨by show Ending.returned (Value.int .i64 (max n (-n))) = _; rw [Int.max_def]; split <;> first | rfl | (congr 2; omega), rfl⟩
  · rw [if_neg c] at h
    subst h
    go_enter Tryd.func20, Tryd.ntmps20
    go_wp2
    go_ret
    exact ⟨by show Ending.returned (Value.int .i64 (max n (-n))) = _; rw [Int.max_def]; split <;> first | rfl | (congr 2; omega), rfl⟩
theorem lSame (a a' : Option Addr) (n c c' : Nat) (zs : List Int) (w : World) (H : RowAt w a n zs) (H' : RowAt w a' n zs) (hn : n ≤ 1048576) :
    Calls Tryd.prog 26 #[.slice a n c, .slice a' n c'] w fun e w' => e = .returned (.bool true) ∧ ∃ m, w' = w.drewN m := by
  obtain ⟨hl, H⟩ := H
  obtain ⟨-, H'⟩ := H'
  clear hl
  rcases H with h0 | ⟨b, o, rfl, hc⟩
  · replace h0 : n ≤ 0 := by omega
    clear H'
    go_enter Tryd.func26, Tryd.ntmps26
    go_wp2
    go_loopw [5] (fun i wr => ∃ (k : Nat) (m : Nat), k ≤ n ∧ i = .int .i64 k ∧ wr = w.drewN m) (fun i _ => n - (intOf i).toNat)
    case atStart => exact ⟨0, 0, by omega, rfl, rfl⟩
    case round =>
      obtain ⟨k, m, hk, rfl, rfl⟩ := hrel
      have hlt : ¬ k < n := by omega
      go_wp2
      go_ret
      exact ⟨rfl, _, rfl⟩
  · rcases H' with h0 | ⟨b', o', rfl, hc'⟩
    · replace h0 : n ≤ 0 := by omega
      clear hc
      go_enter Tryd.func26, Tryd.ntmps26
      go_wp2
      go_loopw [5] (fun i wr => ∃ (k : Nat) (m : Nat), k ≤ n ∧ i = .int .i64 k ∧ wr = w.drewN m) (fun i _ => n - (intOf i).toNat)
      case atStart => exact ⟨0, 0, by omega, rfl, rfl⟩
      case round =>
        obtain ⟨k, m, hk, rfl, rfl⟩ := hrel
        have hlt : ¬ k < n := by omega
        go_wp2
        go_ret
        exact ⟨rfl, _, rfl⟩
    · have HC := Lib.hid hc
      have HC' := Lib.hid hc'
      clear hc hc'
      go_enter Tryd.func26, Tryd.ntmps26
      go_wp2
      go_loopw [5] (fun i wr => ∃ (k : Nat) (m : Nat), k ≤ n ∧ i = .int .i64 k ∧ wr = w.drewN m) (fun i _ => n - (intOf i).toNat)
      case atStart => exact ⟨0, 0, by omega, rfl, rfl⟩
      case round =>
        obtain ⟨k, m, hk, rfl, rfl⟩ := hrel
        by_cases hlt : k < n
        · have h1 : w.cell? ⟨b, o + k, none⟩ = some (.int .i64 (zs.getD k 0)) := HC.out k hlt
          have h2 : w.cell? ⟨b', o' + k, none⟩ = some (.int .i64 (zs.getD k 0)) := HC'.out k hlt
          generalize zs.getD k 0 = z at *
          have i0 : (0 : Int) ≤ k := by omega
          have i1 : (k : Int) < n := by omega
          have i2 : (k : Int).toNat = k := by omega
          go_wp2
          go_quiet (fail)
          go_wp2
          go_roundw
          case rel => exact ⟨k + 1, _, by omega, by go_num, rfl⟩
          case measure => simp [intOf]; omega
        · go_wp2
          go_ret
          exact ⟨rfl, _, rfl⟩
theorem iRootE (n R : Int) (w : World) (h1 : -100000 ≤ n) (h2 : n ≤ 3600000000) (h : rootF n = R) :
    Calls Tryd.prog 18 #[.int .i64 n] w fun e w' => e = .returned (.int .i64 R) ∧ w = w' := by subst h; exact iRootOf n w (by omega) (by omega)
theorem iDvrE (a b Q : Int) (w : World) (h : dvr a b = Q) :
    Calls Tryd.prog 19 #[.int .i64 a, .int .i64 b] w fun e w' => e = .returned (.int .i64 Q) ∧ ∃ n, w' = w.drewN n := by subst h; exact iDivRound a b w
theorem iBlE (x0 y0 x1 y1 x V : Int) (w : World) (h : blendC x0 y0 x1 y1 x = V) :
    Calls Tryd.prog 21 #[.int .i64 x0, .int .i64 y0, .int .i64 x1, .int .i64 y1, .int .i64 x] w fun e w' => e = .returned (.int .i64 V) ∧ ∃ n, w' = w.drewN n := by subst h; exact iBlendC x0 y0 x1 y1 x w
theorem row5 (a b x y z : Int) (t : TypeId) (w : World) (H : Nat) (hH : w.heap.size = H) : RowAt (w.alloc (.cells #[.int .i64 a, .int .i64 b, .int .i64 x, .int .i64 y, .int .i64 z] t)) (some ⟨H, 0, none⟩) 5 [a, b, x, y, z] := by
  subst hH
  refine ⟨rfl, .inr ⟨w.heap.size, 0, rfl, fun i hi => ?_⟩⟩
  rw [World.cell?_alloc_new]
  match i, hi with
  | 0, _ => rfl
  | 1, _ => rfl
  | 2, _ => rfl
  | 3, _ => rfl
  | 4, _ => rfl
theorem ok5 {a b x y z : Int} (ha : -1000000000000 ≤ a ∧ a ≤ 1000000000000) (hb : -1000000000000 ≤ b ∧ b ≤ 1000000000000) (hx : -1000000000000 ≤ x ∧ x ≤ 1000000000000) (hy : -1000000000000 ≤ y ∧ y ≤ 1000000000000) (hz : -1000000000000 ≤ z ∧ z ≤ 1000000000000) : ltOk [a, b, x, y, z] = true := by
  refine ltOk_mk (by simp) fun j hj => ?_
  match j, hj with
  | 0, _ => exact ha
  | 1, _ => exact hb
  | 2, _ => exact hx
  | 3, _ => exact hy
  | 4, _ => exact hz
theorem iLtE (a : Option Addr) (n c : Nat) (zs : List Int) (T : ByteArray) (w : World) (H : RowAt w a n zs) (hT : TabIn w) (h : tx (ltT zs) = T) :
    Calls Tryd.prog 23 #[.slice a n c] w fun e w' => e = .returned (.string T) ∧ Below w.heap.size w w' := by subst h; exact iListText a n c zs w H hT
theorem iRlE (T : ByteArray) (zs : List Int) (w : World) (hs : T.size ≤ 1048576) (hT : TabIn w) (hE : ErrIn w) (hM : MaxIn w) (h : rlB T.data.toList = true ∧ rlV T.data.toList = zs) :
    Calls Tryd.prog 22 #[.string T] w (GotL w zs true) := by
  have := iReadList T w hs hT hE hM
  rw [h.1, h.2] at this
  exact this
theorem iDcE (n : Int) (T : ByteArray) (w : World) (h0 : -9223372036854775808 ≤ n) (h1 : n ≤ 9223372036854775807) (hT : TabIn w) (h : tx (itoa n) = T) :
    Calls Tryd.prog 25 #[.int .i64 n] w fun e w' => e = .returned (.string T) ∧ Below w.heap.size w w' := by subst h; exact iDecimal n w h0 h1 hT
theorem iRdE (T : ByteArray) (n : Int) (w : World) (hs : T.size ≤ 1048576) (hT : TabIn w) (hE : ErrIn w) (h : IsNum T.data.toList n) :
    Calls Tryd.prog 24 #[.string T] w fun e w' => e = .returned (.tuple #[.int .i64 n, .bool true]) ∧ Below w.heap.size w w' := by
  have := iReadDec T w hs hT hE
  rw [(rd_yes h).1, (rd_yes h).2] at this
  exact this
set_option maxRecDepth 100000 in
set_option maxHeartbeats 8000000 in
theorem basicsTrue (a0 : Option Addr) (len0 cap0 : Nat) (a1 : Option Addr) (len1 cap1 : Nat) (w : World) (h : (tooLong len0 || tooLong len1) = true) :
    Calls Tryd.prog 4 #[.slice a0 len0 cap0, .slice a1 len1 cap1] w fun e w' => e = .returned (.bool true) ∧ Below w.heap.size w w' := by
  go_enter Tryd.func4, Tryd.ntmps4
  go_wp2_with (go_at_call 5; (with_reducible refine (lR8Long _ _ _ _ _ _ _).mono ?_); rintro e w' ⟨rfl, rfl⟩)
  go_ret
  exact ⟨rfl, by (repeat (first | exact Below.refl _ _ | assumption | (refine Below.drewN ?_ _) | (refine Below.drew ?_) | (refine Below.alloc ?_ (by first | (simp; done) | (simp; omega) | omega) _) | (refine Below.setCell ?_ (by first | (simp; done) | (simp; omega) | omega) _) | (refine Below.trans ?_ (Below.mono (by assumption) (by first | (simp; done) | (simp; omega) | omega)))))⟩
set_option maxRecDepth 100000 in
set_option maxHeartbeats 16000000 in
theorem walk_FnBasics (a0 : Option Addr) (len0 cap0 : Nat) (z0 : List Int) (a1 : Option Addr) (len1 cap1 : Nat) (z1 : List Int) (w : World) (w0 : IsRow .u8 w a0 len0 cap0 z0) (w1 : IsRow .u8 w a1 len1 cap1 z1) (hT : TabIn w) (hE : ErrIn w) (hM : MaxIn w) :
    Calls Tryd.prog 4 #[.slice a0 len0 cap0, .slice a1 len1 cap1] w fun e w' => e = .returned (.bool true) ∧ Below w.heap.size w w' := by
  by_cases hl : (tooLong len0 || tooLong len1) = true
  · exact basicsTrue a0 len0 cap0 a1 len1 cap1 w hl
  replace hl : (tooLong len0 || tooLong len1) = false := by simpa using hl
  have HN : Hid (len0 ≤ 1048576 ∧ len1 ≤ 1048576) := by
    show _ ∧ _
    simp only [Bool.or_eq_false_iff] at hl
    exact ⟨by have := of_decide_eq_false hl.1; omega, by have := of_decide_eq_false hl.2; omega⟩
  have R0 := Lib.hid w0.rowB
  have R1 := Lib.hid w1.rowB
  clear w0 w1
  have HT := Lib.hid hT
  have HE := Lib.hid hE
  have HM := Lib.hid hM
  clear hT hE hM
  go_enter Tryd.func4, Tryd.ntmps4
  go_wp2_with fail
  (with_reducible refine (lR8Long _ _ _ _ _ _ _).mono ?_)
  rintro e w' ⟨rfl, rfl⟩
  go_wp2_with fail
  (with_reducible refine (sR8Numbers _ _ _ _ _ R0.out HN.out.1).mono ?_)
  rintro e W1 ⟨a, b, rfl, ⟨a1, a2⟩, ⟨b1, b2⟩, hb1⟩
  have hs1 := hb1.size
  have HROOT : Hid ((a < 0 ∧ rootF a = 0) ∨ (0 ≤ a ∧ IsRoot a (rootF a))) := by
    by_cases h : a < 0
    · exact .inl ⟨h, rootF_neg h⟩
    · exact .inr ⟨by omega, rootF_spec (by omega)⟩
  obtain ⟨r, hr⟩ : ∃ r, rootF a = r := ⟨_, rfl⟩
  rw [hr] at HROOT
  have HR := Lib.hid hr
  clear hr
  have HQ1 := Lib.hid (dvr_in b1 (show b ≤ 1000000 by omega) (a := a) (by omega))
  have HQ2 : Hid (dvr (-a) b = -divR a b) := by show _ = _; rw [dvr_in b1 (show b ≤ 1000000 by omega) (by omega), divR_flip (by omega)]
  have qn := divR_near (a := a) (b := b) (by omega)
  have qb := divR_bd (a := a) (b := b) (c := 3600000000) (by omega) (by omega) (by omega)
  obtain ⟨q, hq⟩ : ∃ q, divR a b = q := ⟨_, rfl⟩
  rw [hq] at HQ1 HQ2 qn qb
  clear hq
  obtain ⟨qb1, qb2⟩ := qb
  obtain ⟨P, hP⟩ : ∃ P, q * b = P := ⟨_, rfl⟩
  rw [hP] at qn
  obtain ⟨A, hA⟩ : ∃ A, ab (a - P) = A := ⟨_, rfl⟩
  have A1 : 0 ≤ A := by rw [← hA]; exact ab_nonneg _
  have A2 : 2 * A ≤ b := by rw [← hA]; unfold ab; split <;> omega
  have HA := Lib.hid hA
  clear hA
  obtain ⟨qn1, qn2⟩ := qn
  rcases HROOT.out with ⟨an, rz⟩ | ⟨ap, hroot⟩
  · subst rz
    have w4 : IntKind.i64.wrap P = P := IntWalk.i64_in _ (by omega)
    clear HROOT
    go_wp2_with fail
    (with_reducible refine (iRootE _ _ _ (by omega) (by omega) HR.out).mono ?_)
    rintro e w' ⟨rfl, rfl⟩
    go_wp2_with fail
    (with_reducible refine (iDvrE _ _ _ _ HQ1.out).mono ?_)
    rintro e w' ⟨rfl, m1, rfl⟩
    go_wp2_with fail
    (with_reducible refine (lR8AbsN _ _ _ (by omega) (by omega) HA.out).mono ?_)
    rintro e w' ⟨rfl, rfl⟩
    go_wp2_with fail
    (with_reducible refine (iDvrE _ _ _ _ HQ2.out).mono ?_)
    rintro e w' ⟨rfl, m2, rfl⟩
    go_wp2_with fail
    (with_reducible refine (lR8Wide _ _ _ _ w.heap.size _ _ _ (RowB.low R1.out (by (repeat (first | exact Below.refl _ _ | assumption | (refine Below.drewN ?_ _) | (refine Below.drew ?_) | (refine Below.alloc ?_ (by first | (simp; done) | (simp; omega) | omega) _) | (refine Below.setCell ?_ (by first | (simp; done) | (simp; omega) | omega) _) | (refine Below.trans ?_ (Below.mono (by assumption) (by first | (simp; done) | (simp; omega) | omega))))))) (by omega) (by omega) (by omega) (by omega) HN.out.2).mono ?_)
    rintro e w' ⟨x, rfl, ⟨x1, x2⟩, rfl⟩
    go_wp2_with fail
    (with_reducible refine (lR8Wide _ _ _ _ w.heap.size _ _ _ (RowB.low R1.out (by (repeat (first | exact Below.refl _ _ | assumption | (refine Below.drewN ?_ _) | (refine Below.drew ?_) | (refine Below.alloc ?_ (by first | (simp; done) | (simp; omega) | omega) _) | (refine Below.setCell ?_ (by first | (simp; done) | (simp; omega) | omega) _) | (refine Below.trans ?_ (Below.mono (by assumption) (by first | (simp; done) | (simp; omega) | omega))))))) (by omega) (by omega) (by omega) (by omega) HN.out.2).mono ?_)
    rintro e w' ⟨y, rfl, ⟨y1, y2⟩, rfl⟩
    obtain ⟨Y, hY⟩ : ∃ Y, y - 2500 = Y := ⟨_, rfl⟩
    go_wp2_with fail
    (with_reducible refine (lR8Wide _ _ _ _ w.heap.size _ _ _ (RowB.low R1.out (by (repeat (first | exact Below.refl _ _ | assumption | (refine Below.drewN ?_ _) | (refine Below.drew ?_) | (refine Below.alloc ?_ (by first | (simp; done) | (simp; omega) | omega) _) | (refine Below.setCell ?_ (by first | (simp; done) | (simp; omega) | omega) _) | (refine Below.trans ?_ (Below.mono (by assumption) (by first | (simp; done) | (simp; omega) | omega))))))) (by omega) (by omega) (by omega) (by omega) HN.out.2).mono ?_)
    rintro e w' ⟨z, rfl, ⟨z1, z2⟩, rfl⟩
    obtain ⟨Z, hZ⟩ : ∃ Z, z - 2500 = Z := ⟨_, rfl⟩
    have Y1 : -2500 ≤ Y := by omega
    have Y2 : Y ≤ 2499 := by omega
    have Z1 : -2500 ≤ Z := by omega
    have Z2 : Z ≤ 2499 := by omega
    obtain ⟨LO, hLO⟩ : ∃ LO, min Y Z = LO := ⟨_, rfl⟩
    obtain ⟨HI, hHI⟩ : ∃ HI, max Y Z = HI := ⟨_, rfl⟩
    have HBL := Lib.hid (blendC_in (y := Y) (z := Z) (x := x) (by omega) (by omega))
    have HBL0 : Hid (blendC 0 Y 1000 Z 0 = Y) := by show _ = _; rw [blendC_in (by omega) (by omega), blendF_0]
    have HBL1 : Hid (blendC 0 Y 1000 Z 1000 = Z) := by show _ = _; rw [blendC_in (by omega) (by omega), blendF_1]
    obtain ⟨vb1, vb2⟩ := blendF_bd (x0 := 0) (y0 := Y) (x1 := 1000) (y1 := Z) (x := x) (lo := LO) (hi := HI) (by omega) (by omega) (by omega) (by omega)
    obtain ⟨V, hV⟩ : ∃ V, blendF 0 Y 1000 Z x = V := ⟨_, rfl⟩
    rw [hV] at HBL vb1 vb2
    clear hV
    go_wp2_with fail
    (with_reducible refine (iBlE _ _ _ _ _ _ _ HBL.out).mono ?_)
    rintro e w' ⟨rfl, m3, rfl⟩
    go_wp2_with fail
    (with_reducible refine (iBlE _ _ _ _ _ _ _ HBL0.out).mono ?_)
    rintro e w' ⟨rfl, m4, rfl⟩
    go_wp2_with fail
    (with_reducible refine (iBlE _ _ _ _ _ _ _ HBL1.out).mono ?_)
    rintro e w' ⟨rfl, m5, rfl⟩
    have HOK := Lib.hid (ok5 (a := a) (b := b) (x := x) (y := Y) (z := Z) (by omega) (by omega) (by omega) (by omega) (by omega))
    obtain ⟨T, hTx⟩ : ∃ T, tx (ltT [a, b, x, Y, Z]) = T := ⟨_, rfl⟩
    have HTx := Lib.hid hTx
    have HTs : Hid (T.size ≤ 1048576) := by show _ ≤ _; rw [← hTx]; exact ltT_len
    have HTr : Hid (rlB T.data.toList = true ∧ rlV T.data.toList = [a, b, x, Y, Z]) := by show _ ∧ _; rw [← hTx, tx_list]; exact rl_ltT HOK.out (by simp)
    obtain ⟨D, hDx⟩ : ∃ D, tx (itoa a) = D := ⟨_, rfl⟩
    have HDx := Lib.hid hDx
    have HDs : Hid (D.size ≤ 1048576) := by show _ ≤ _; rw [← hDx, tx_size]; have := itoa_len (n := a) (by omega) (by omega); omega
    have HDr : Hid (IsNum D.data.toList a) := by show IsNum _ _; rw [← hDx, tx_list]; exact isNum_itoa (by omega)
    clear hTx hDx
    go_wp2_with fail
    (with_reducible refine (iLtE _ 5 5 [a, b, x, Y, Z] T _ (row5 a b x Y Z _ _ W1.heap.size (by simp)) (HT.out.below (by (repeat (first | exact Below.refl _ _ | assumption | (refine Below.drewN ?_ _) | (refine Below.drew ?_) | (refine Below.alloc ?_ (by first | (simp; done) | (simp; omega) | omega) _) | (refine Below.setCell ?_ (by first | (simp; done) | (simp; omega) | omega) _) | (refine Below.trans ?_ (Below.mono (by assumption) (by first | (simp; done) | (simp; omega) | omega))))))) HTx.out).mono ?_)
    rintro e W2 ⟨rfl, hb2⟩
    have hs2 := hb2.size
    (try simp at hs2)
    have R2 := Lib.hid ((row5 a b x Y Z _ _ W1.heap.size (by simp)).below hb2)
    have HB2 : Hid (Below w.heap.size w W2) := by show Below _ _ _; (repeat (first | exact Below.refl _ _ | assumption | (refine Below.drewN ?_ _) | (refine Below.drew ?_) | (refine Below.alloc ?_ (by first | (simp; done) | (simp; omega) | omega) _) | (refine Below.setCell ?_ (by first | (simp; done) | (simp; omega) | omega) _) | (refine Below.trans ?_ (Below.mono (by assumption) (by first | (simp; done) | (simp; omega) | omega)))))
    clear hb1 hb2 hs1
    go_wp2_with fail
    (with_reducible refine (iRlE T _ _ HTs.out (HT.out.below HB2.out) (HE.out.below HB2.out) (HM.out.below HB2.out) HTr.out).mono ?_)
    rintro e W3 ⟨ba, nb, cb, rfl, hrb, hb3⟩
    have HRB := Lib.hid hrb
    clear hrb
    obtain rfl : nb = 5 := HRB.out.1
    have R3 := Lib.hid (R2.out.below hb3)
    have HB3 := Lib.hid (HB2.out.trans (hb3.mono HB2.out.size))
    clear R2 HB2 hb3
    go_wp2_with fail
    (with_reducible refine (iDcE _ _ _ (by omega) (by omega) (HT.out.below HB3.out) HDx.out).mono ?_)
    rintro e W4 ⟨rfl, hb4⟩
    have R4 := Lib.hid (R3.out.below hb4)
    have HRB4 := Lib.hid (HRB.out.keep hb4)
    have HB4 := Lib.hid (HB3.out.trans (hb4.mono HB3.out.size))
    clear R3 HRB HB3 hb4
    go_wp2_with fail
    (with_reducible refine (iRdE _ a _ HDs.out (HT.out.below HB4.out) (HE.out.below HB4.out) HDr.out).mono ?_)
    rintro e W5 ⟨rfl, hb5⟩
    have R5 := Lib.hid (R4.out.below hb5)
    have HRB5 := Lib.hid (HRB4.out.keep hb5)
    have HB5 := Lib.hid (HB4.out.trans (hb5.mono HB4.out.size))
    clear R4 HRB4 HB4 hb5
    go_wp2_with fail
    (with_reducible refine (lSame _ _ 5 _ _ _ _ HRB5.out.rowAt R5.out (by omega)).mono ?_)
    rintro e w' ⟨rfl, m6, rfl⟩
    go_wp2
    go_ret
    exact ⟨rfl, HB5.out.drewN _⟩
  · obtain ⟨r1, r2, r3, r4, r5, r6⟩ := root_sq hroot a2
    obtain ⟨RR, hRR⟩ : ∃ RR, r * r = RR := ⟨_, rfl⟩
    obtain ⟨RS, hRS⟩ : ∃ RS, (r + 1) * (r + 1) = RS := ⟨_, rfl⟩
    rw [hRR] at r3 r4
    rw [hRS] at r5 r6
    have w1 : IntKind.i64.wrap (r + 1) = r + 1 := IntWalk.i64_in _ (by omega)
    have w2 : IntKind.i64.wrap RR = RR := IntWalk.i64_in _ (by omega)
    have w3 : IntKind.i64.wrap RS = RS := IntWalk.i64_in _ (by omega)
    have w4 : IntKind.i64.wrap P = P := IntWalk.i64_in _ (by omega)
    clear HROOT hroot
    go_wp2_with fail
    (with_reducible refine (iRootE _ _ _ (by omega) (by omega) HR.out).mono ?_)
    rintro e w' ⟨rfl, rfl⟩
    go_wp2_with fail
    (with_reducible refine (iDvrE _ _ _ _ HQ1.out).mono ?_)
    rintro e w' ⟨rfl, m1, rfl⟩
    go_wp2_with fail
    (with_reducible refine (lR8AbsN _ _ _ (by omega) (by omega) HA.out).mono ?_)
    rintro e w' ⟨rfl, rfl⟩
    go_wp2_with fail
    (with_reducible refine (iDvrE _ _ _ _ HQ2.out).mono ?_)
    rintro e w' ⟨rfl, m2, rfl⟩
    go_wp2_with fail
    (with_reducible refine (lR8Wide _ _ _ _ w.heap.size _ _ _ (RowB.low R1.out (by (repeat (first | exact Below.refl _ _ | assumption | (refine Below.drewN ?_ _) | (refine Below.drew ?_) | (refine Below.alloc ?_ (by first | (simp; done) | (simp; omega) | omega) _) | (refine Below.setCell ?_ (by first | (simp; done) | (simp; omega) | omega) _) | (refine Below.trans ?_ (Below.mono (by assumption) (by first | (simp; done) | (simp; omega) | omega))))))) (by omega) (by omega) (by omega) (by omega) HN.out.2).mono ?_)
    rintro e w' ⟨x, rfl, ⟨x1, x2⟩, rfl⟩
    go_wp2_with fail
    (with_reducible refine (lR8Wide _ _ _ _ w.heap.size _ _ _ (RowB.low R1.out (by (repeat (first | exact Below.refl _ _ | assumption | (refine Below.drewN ?_ _) | (refine Below.drew ?_) | (refine Below.alloc ?_ (by first | (simp; done) | (simp; omega) | omega) _) | (refine Below.setCell ?_ (by first | (simp; done) | (simp; omega) | omega) _) | (refine Below.trans ?_ (Below.mono (by assumption) (by first | (simp; done) | (simp; omega) | omega))))))) (by omega) (by omega) (by omega) (by omega) HN.out.2).mono ?_)
    rintro e w' ⟨y, rfl, ⟨y1, y2⟩, rfl⟩
    obtain ⟨Y, hY⟩ : ∃ Y, y - 2500 = Y := ⟨_, rfl⟩
    go_wp2_with fail
    (with_reducible refine (lR8Wide _ _ _ _ w.heap.size _ _ _ (RowB.low R1.out (by (repeat (first | exact Below.refl _ _ | assumption | (refine Below.drewN ?_ _) | (refine Below.drew ?_) | (refine Below.alloc ?_ (by first | (simp; done) | (simp; omega) | omega) _) | (refine Below.setCell ?_ (by first | (simp; done) | (simp; omega) | omega) _) | (refine Below.trans ?_ (Below.mono (by assumption) (by first | (simp; done) | (simp; omega) | omega))))))) (by omega) (by omega) (by omega) (by omega) HN.out.2).mono ?_)
    rintro e w' ⟨z, rfl, ⟨z1, z2⟩, rfl⟩
    obtain ⟨Z, hZ⟩ : ∃ Z, z - 2500 = Z := ⟨_, rfl⟩
    have Y1 : -2500 ≤ Y := by omega
    have Y2 : Y ≤ 2499 := by omega
    have Z1 : -2500 ≤ Z := by omega
    have Z2 : Z ≤ 2499 := by omega
    obtain ⟨LO, hLO⟩ : ∃ LO, min Y Z = LO := ⟨_, rfl⟩
    obtain ⟨HI, hHI⟩ : ∃ HI, max Y Z = HI := ⟨_, rfl⟩
    have HBL := Lib.hid (blendC_in (y := Y) (z := Z) (x := x) (by omega) (by omega))
    have HBL0 : Hid (blendC 0 Y 1000 Z 0 = Y) := by show _ = _; rw [blendC_in (by omega) (by omega), blendF_0]
    have HBL1 : Hid (blendC 0 Y 1000 Z 1000 = Z) := by show _ = _; rw [blendC_in (by omega) (by omega), blendF_1]
    obtain ⟨vb1, vb2⟩ := blendF_bd (x0 := 0) (y0 := Y) (x1 := 1000) (y1 := Z) (x := x) (lo := LO) (hi := HI) (by omega) (by omega) (by omega) (by omega)
    obtain ⟨V, hV⟩ : ∃ V, blendF 0 Y 1000 Z x = V := ⟨_, rfl⟩
    rw [hV] at HBL vb1 vb2
    clear hV
    go_wp2_with fail
    (with_reducible refine (iBlE _ _ _ _ _ _ _ HBL.out).mono ?_)
    rintro e w' ⟨rfl, m3, rfl⟩
    go_wp2_with fail
    (with_reducible refine (iBlE _ _ _ _ _ _ _ HBL0.out).mono ?_)
    rintro e w' ⟨rfl, m4, rfl⟩
    go_wp2_with fail
    (with_reducible refine (iBlE _ _ _ _ _ _ _ HBL1.out).mono ?_)
    rintro e w' ⟨rfl, m5, rfl⟩
    have HOK := Lib.hid (ok5 (a := a) (b := b) (x := x) (y := Y) (z := Z) (by omega) (by omega) (by omega) (by omega) (by omega))
    obtain ⟨T, hTx⟩ : ∃ T, tx (ltT [a, b, x, Y, Z]) = T := ⟨_, rfl⟩
    have HTx := Lib.hid hTx
    have HTs : Hid (T.size ≤ 1048576) := by show _ ≤ _; rw [← hTx]; exact ltT_len
    have HTr : Hid (rlB T.data.toList = true ∧ rlV T.data.toList = [a, b, x, Y, Z]) := by show _ ∧ _; rw [← hTx, tx_list]; exact rl_ltT HOK.out (by simp)
    obtain ⟨D, hDx⟩ : ∃ D, tx (itoa a) = D := ⟨_, rfl⟩
    have HDx := Lib.hid hDx
    have HDs : Hid (D.size ≤ 1048576) := by show _ ≤ _; rw [← hDx, tx_size]; have := itoa_len (n := a) (by omega) (by omega); omega
    have HDr : Hid (IsNum D.data.toList a) := by show IsNum _ _; rw [← hDx, tx_list]; exact isNum_itoa (by omega)
    clear hTx hDx
    go_wp2_with fail
    (with_reducible refine (iLtE _ 5 5 [a, b, x, Y, Z] T _ (row5 a b x Y Z _ _ W1.heap.size (by simp)) (HT.out.below (by (repeat (first | exact Below.refl _ _ | assumption | (refine Below.drewN ?_ _) | (refine Below.drew ?_) | (refine Below.alloc ?_ (by first | (simp; done) | (simp; omega) | omega) _) | (refine Below.setCell ?_ (by first | (simp; done) | (simp; omega) | omega) _) | (refine Below.trans ?_ (Below.mono (by assumption) (by first | (simp; done) | (simp; omega) | omega))))))) HTx.out).mono ?_)
    rintro e W2 ⟨rfl, hb2⟩
    have hs2 := hb2.size
    (try simp at hs2)
    have R2 := Lib.hid ((row5 a b x Y Z _ _ W1.heap.size (by simp)).below hb2)
    have HB2 : Hid (Below w.heap.size w W2) := by show Below _ _ _; (repeat (first | exact Below.refl _ _ | assumption | (refine Below.drewN ?_ _) | (refine Below.drew ?_) | (refine Below.alloc ?_ (by first | (simp; done) | (simp; omega) | omega) _) | (refine Below.setCell ?_ (by first | (simp; done) | (simp; omega) | omega) _) | (refine Below.trans ?_ (Below.mono (by assumption) (by first | (simp; done) | (simp; omega) | omega)))))
    clear hb1 hb2 hs1
    go_wp2_with fail
    (with_reducible refine (iRlE T _ _ HTs.out (HT.out.below HB2.out) (HE.out.below HB2.out) (HM.out.below HB2.out) HTr.out).mono ?_)
    rintro e W3 ⟨ba, nb, cb, rfl, hrb, hb3⟩
    have HRB := Lib.hid hrb
    clear hrb
    obtain rfl : nb = 5 := HRB.out.1
    have R3 := Lib.hid (R2.out.below hb3)
    have HB3 := Lib.hid (HB2.out.trans (hb3.mono HB2.out.size))
    clear R2 HB2 hb3
    go_wp2_with fail
    (with_reducible refine (iDcE _ _ _ (by omega) (by omega) (HT.out.below HB3.out) HDx.out).mono ?_)
    rintro e W4 ⟨rfl, hb4⟩
    have R4 := Lib.hid (R3.out.below hb4)
    have HRB4 := Lib.hid (HRB.out.keep hb4)
    have HB4 := Lib.hid (HB3.out.trans (hb4.mono HB3.out.size))
    clear R3 HRB HB3 hb4
    go_wp2_with fail
    (with_reducible refine (iRdE _ a _ HDs.out (HT.out.below HB4.out) (HE.out.below HB4.out) HDr.out).mono ?_)
    rintro e W5 ⟨rfl, hb5⟩
    have R5 := Lib.hid (R4.out.below hb5)
    have HRB5 := Lib.hid (HRB4.out.keep hb5)
    have HB5 := Lib.hid (HB4.out.trans (hb5.mono HB4.out.size))
    clear R4 HRB4 HB4 hb5
    go_wp2_with fail
    (with_reducible refine (lSame _ _ 5 _ _ _ _ HRB5.out.rowAt R5.out (by omega)).mono ?_)
    rintro e w' ⟨rfl, m6, rfl⟩
    go_wp2
    go_ret
    exact ⟨rfl, HB5.out.drewN _⟩
end Go.Proofs.YtmkmhljiajgibaaDoor
