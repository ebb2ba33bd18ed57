/-
  The law on turns.
-/
import Derived.Test.YtconhjidpoimaaaDoorMtu
import Derived.Test.YtconhjidpoimaaaDoorDrw3
import Derived.Test.YtconhjidpoimaaaDoorDrw4
namespace Go.Proofs.YtconhjidpoimaaaDoor
set_option linter.unusedVariables false
set_option linter.unusedSimpArgs false
open Go.RowKit
attribute [local go_sem ↓] Go.wp_at_zero Go.wp_at_succ
attribute [local go_sem] nn_e2 nn_e3 nn_e4 nn_f2 nn_f3 nn_f4 nn_l2 nn_l3 nn_l4 nn_m3 nn_m4 nn_k4

theorem RowB.up {w : World} {B B' : Nat} {a : Option Addr} {n : Nat} {zs : List Int} (h : RowB w B a n zs) (hB : B ≤ B') : RowB w B' a n zs := by
  rcases h with h | ⟨b, o, h1, h2, h3⟩
  · exact .inl h
  · exact .inr ⟨b, o, h1, by omega, h3⟩
theorem iRoE (a g x y z X Y Z K : Int) (w : World) (h1 : -9223372036854775808 ≤ g) (h2 : g ≤ 9223372036854775807) (hS : SinesIn w) (h : roX a g x y z = X ∧ roY a g x y z = Y ∧ roZ a g x y z = Z ∧ roC a g x y z = K) :
    Calls Tryd.prog 13 #[.agg #[.int .i64 x, .int .i64 y, .int .i64 z], .int .i64 a, .int .i64 g] w fun e w' => e = .returned (.tuple #[.agg #[.int .i64 X, .int .i64 Y, .int .i64 Z], .int .i64 K]) ∧ Below w.heap.size w w' := by
  obtain ⟨rfl, rfl, rfl, rfl⟩ := h
  exact iRotE a g x y z w h1 h2 hS
theorem iNaE (g M : Int) (w : World) (h1 : -9223372036854775808 ≤ g) (h2 : g ≤ 9223372036854775807) (h : g % 360000 = M) :
    Calls Tryd.prog 14 #[.int .i64 g] w fun e w' => e = .returned (.int .i64 M) ∧ w = w' := by subst h; exact iNormalAngle g w h1 h2
theorem iLeE (x y z N : Int) (w : World) (h : leA x y z = N ∧ leC x y z = 0) :
    Calls Tryd.prog 15 #[.agg #[.int .i64 x, .int .i64 y, .int .i64 z]] w fun e w' => e = .returned (.tuple #[.int .i64 N, .int .i64 0]) ∧ Below w.heap.size w w' := by
  obtain ⟨rfl, h2⟩ := h
  have := iLengthOf x y z w
  rw [h2] at this
  exact this
theorem iBvE (a b c x y z s X Y Z K : Int) (w : World) (h : bvX a b c x y z s = X ∧ bvY a b c x y z s = Y ∧ bvZ a b c x y z s = Z ∧ bvC a b c x y z s = K) :
    Calls Tryd.prog 18 #[.agg #[.int .i64 a, .int .i64 b, .int .i64 c], .agg #[.int .i64 x, .int .i64 y, .int .i64 z], .int .i64 s] w fun e w' => e = .returned (.tuple #[.agg #[.int .i64 X, .int .i64 Y, .int .i64 Z], .int .i64 K]) ∧ Below w.heap.size w w' := by
  obtain ⟨rfl, rfl, rfl, rfl⟩ := h
  exact iBlendVe a b c x y z s w
theorem iNvE (x y z X Y Z K : Int) (w : World) (h : nvV x x y z = X ∧ nvV y x y z = Y ∧ nvV z x y z = Z ∧ nvC x y z = K) :
    Calls Tryd.prog 19 #[.agg #[.int .i64 x, .int .i64 y, .int .i64 z]] w fun e w' => e = .returned (.tuple #[.agg #[.int .i64 X, .int .i64 Y, .int .i64 Z], .int .i64 K]) ∧ Below w.heap.size w w' := by
  obtain ⟨rfl, rfl, rfl, rfl⟩ := h
  exact iNormal x y z w
theorem lAbE (x D : Int) (w : World) (h1 : -1000 ≤ x) (h2 : x ≤ 1000) (e : ab x = D) :
    Calls Tryd.prog 16 #[.int .i64 x] w fun e w' => e = .returned (.int .i64 D) ∧ w = w' := by subst e; exact lAbs x w (by omega) (by omega)
theorem sVvE (x y z : Int) (w : World) (h : okV x y z = true) :
    Calls Tryd.prog 20 #[.agg #[.int .i64 x, .int .i64 y, .int .i64 z]] w fun e w' => e = .returned (.bool true) ∧ Below w.heap.size w w' := by
  have := sValidVector x y z w
  rw [h] at this
  exact this
set_option maxRecDepth 100000 in
set_option maxHeartbeats 4000000 in
theorem turnsTrue (a0 : Option Addr) (len0 cap0 : Nat) (a1 : Option Addr) (len1 cap1 : Nat) (w : World) (h : tooLong len0 = true ∨ (tooLong len0 = false ∧ tooLong len1 = true)) :
    Calls Tryd.prog 5 #[.slice a0 len0 cap0, .slice a1 len1 cap1] w fun e w' => e = .returned (.bool true) ∧ Below w.heap.size w w' := by
  rcases h with h | ⟨h, h'⟩
  all_goals
    go_enter Tryd.func5, Tryd.ntmps5
    go_wp2_with (go_at_call 11; (with_reducible refine (lB10Long _ _ _ _).mono ?_); rintro e w' ⟨rfl, rfl⟩)
    go_ret
    exact ⟨rfl, by (repeat (first | exact Below.refl _ _ | assumption | (refine Below.drewN ?_ _) | (refine Below.drew ?_) | (refine Below.alloc ?_ (by first | (simp; done) | (simp; omega) | omega) _) | (refine Below.setCell ?_ (by first | (simp; done) | (simp; omega) | omega) _) | (refine Below.trans ?_ (Below.mono (by assumption) (by first | (simp; done) | (simp; omega) | omega)))))⟩
set_option maxRecDepth 100000 in
set_option maxHeartbeats 16000000 in
theorem walk_FnTurns (a0 : Option Addr) (len0 cap0 : Nat) (z0 : List Int) (a1 : Option Addr) (len1 cap1 : Nat) (z1 : List Int) (w : World) (w0 : IsRow .u8 w a0 len0 cap0 z0) (w1 : IsRow .u8 w a1 len1 cap1 z1) (hS : SinesIn w) :
    Calls Tryd.prog 5 #[.slice a0 len0 cap0, .slice a1 len1 cap1] w fun e w' => e = .returned (.bool true) ∧ Below w.heap.size w w' := by
  by_cases g0 : 1048576 < len0
  · exact turnsTrue _ _ _ _ _ _ _ (.inl (tooLong_t g0))
  by_cases g1 : 1048576 < len1
  · exact turnsTrue _ _ _ _ _ _ _ (.inr ⟨tooLong_f (by omega), tooLong_t g1⟩)
  have l0 : tooLong len0 = false := tooLong_f (by omega)
  have l1 : tooLong len1 = false := tooLong_f (by omega)
  have N0 : Hid (len0 ≤ 1048576) := by show _ ≤ _; omega
  have N1 : Hid (len1 ≤ 1048576) := by show _ ≤ _; omega
  clear g0 g1
  have R0 := Lib.hid w0.rowB
  have R1 := Lib.hid w1.rowB
  clear w0 w1
  have HS := Lib.hid hS
  clear hS
  go_enter Tryd.func5, Tryd.ntmps5
  go_wp2_with fail
  (with_reducible refine (lB10Long _ _ _ _).mono ?_)
  rintro e w' ⟨rfl, rfl⟩
  go_wp2_with fail
  (with_reducible refine (lB10Long _ _ _ _).mono ?_)
  rintro e w' ⟨rfl, rfl⟩
  go_wp2_with fail
  (with_reducible refine (sDrawRot _ _ _ _ _ R0.out N0.out).mono ?_)
  rintro e W1 ⟨x, y, z, a, g, rfl, hvb, ⟨hg1, hg2⟩, hb1⟩
  obtain ⟨X, hX⟩ : ∃ X, roX a g x y z = X := ⟨_, rfl⟩
  obtain ⟨Y, hY⟩ : ∃ X, roY a g x y z = X := ⟨_, rfl⟩
  obtain ⟨Z, hZ⟩ : ∃ X, roZ a g x y z = X := ⟨_, rfl⟩
  obtain ⟨K, hK⟩ : ∃ X, roC a g x y z = X := ⟨_, rfl⟩
  have HR := Lib.hid (And.intro hX (And.intro hY (And.intro hZ hK)))
  clear hX hY hZ hK hvb
  have hs1 := hb1.size
  obtain ⟨hc1, hf1⟩ := bcell hb1
  have hz01 : w.heap.size < W1.heap.size + 1 := by omega
  go_wp2_with fail
  (with_reducible refine (iRoE _ _ _ _ _ _ _ _ _ _ (by omega) (by omega) (HS.out.below (by (repeat (first | exact Below.refl _ _ | assumption | (refine Below.drewN ?_ _) | (refine Below.drew ?_) | (refine Below.alloc ?_ (by first | (simp; done) | (simp; omega) | omega) _) | (refine Below.setCell ?_ (by first | (simp; done) | (simp; omega) | omega) _) | (refine Below.trans ?_ (Below.mono (by assumption) (by first | (simp; done) | (simp; omega) | omega))))))) HR.out).mono ?_)
  rintro e W2 ⟨rfl, hb2⟩
  have hs2 := hb2.size
  (try simp at hs2)
  obtain ⟨hc2, hf2⟩ := bcell hb2
  (try have hz0_2 : w.heap.size < W2.heap.size := by omega)
  (try have hy0_2 : w.heap.size + 1 < W2.heap.size := by omega)
  (try have hz1_2 : W1.heap.size < W2.heap.size := by omega)
  (try have hy1_2 : W1.heap.size + 1 < W2.heap.size := by omega)
  by_cases hK0 : K = 0
  · subst hK0
    obtain ⟨M, hM⟩ : ∃ M, g % 360000 = M := ⟨_, rfl⟩
    obtain ⟨B, hB⟩ : ∃ B, (-M) % 360000 = B := ⟨_, rfl⟩
    have hba := back_angle g
    rw [hM, hB] at hba
    have M1 : 0 ≤ M := by omega
    have M2 : M < 360000 := by omega
    have B1 : 0 ≤ B := by omega
    have B2 : B < 360000 := by omega
    have HMM := Lib.hid hM
    have HBB := Lib.hid hB
    obtain ⟨t1, t2, t3, t4⟩ := turns (k := B) HR.out.2.2.2 hba.1 hba.2 HR.out.1 HR.out.2.1 HR.out.2.2.1
    clear hM hB hba
    obtain ⟨X2, hX2⟩ : ∃ X', roX a B X Y Z = X' := ⟨_, rfl⟩
    obtain ⟨Y2, hY2⟩ : ∃ X', roY a B X Y Z = X' := ⟨_, rfl⟩
    obtain ⟨Z2, hZ2⟩ : ∃ X', roZ a B X Y Z = X' := ⟨_, rfl⟩
    obtain ⟨K2, hK2⟩ : ∃ X', roC a B X Y Z = X' := ⟨_, rfl⟩
    rw [hX2, hY2, hZ2, hK2] at t4
    have HR2 := Lib.hid (And.intro hX2 (And.intro hY2 (And.intro hZ2 hK2)))
    clear hX2 hY2 hZ2 hK2
    obtain ⟨N, hN⟩ : ∃ N, leA x y z = N := ⟨_, rfl⟩
    obtain ⟨O, hO⟩ : ∃ N, leA X Y Z = N := ⟨_, rfl⟩
    have HL1 := Lib.hid (And.intro hN t1)
    have HL2 := Lib.hid (And.intro hO t2)
    rw [hN, hO] at t3
    clear hN hO t1 t2
    obtain ⟨t31, t32⟩ := t3
    have T4 := Lib.hid t4
    clear t4
    go_wp2_with fail
    (with_reducible refine (iNaE _ _ _ (by omega) (by omega) HMM.out).mono ?_)
    rintro e w' ⟨rfl, rfl⟩
    go_wp2_with fail
    (with_reducible refine (iNaE _ _ _ (by omega) (by omega) HBB.out).mono ?_)
    rintro e w' ⟨rfl, rfl⟩
    go_wp2_with fail
    (with_reducible refine (iRoE _ _ _ _ _ _ _ _ _ _ (by omega) (by omega) (HS.out.below (by (repeat (first | exact Below.refl _ _ | assumption | (refine Below.drewN ?_ _) | (refine Below.drew ?_) | (refine Below.alloc ?_ (by first | (simp; done) | (simp; omega) | omega) _) | (refine Below.setCell ?_ (by first | (simp; done) | (simp; omega) | omega) _) | (refine Below.trans ?_ (Below.mono (by assumption) (by first | (simp; done) | (simp; omega) | omega))))))) HR2.out).mono ?_)
    rintro e W3 ⟨rfl, hb3⟩
    have hs3 := hb3.size
    (try simp at hs3)
    obtain ⟨hc3, hf3⟩ := bcell hb3
    (try have hz0_3 : w.heap.size < W3.heap.size := by omega)
    (try have hy0_3 : w.heap.size + 1 < W3.heap.size := by omega)
    (try have hz1_3 : W1.heap.size < W3.heap.size := by omega)
    (try have hy1_3 : W1.heap.size + 1 < W3.heap.size := by omega)
    (try have hz2_3 : W2.heap.size < W3.heap.size := by omega)
    (try have hy2_3 : W2.heap.size + 1 < W3.heap.size := by omega)
    go_wp2_with fail
    (with_reducible refine (iLeE _ _ _ _ _ HL1.out).mono ?_)
    rintro e W4 ⟨rfl, hb4⟩
    have hs4 := hb4.size
    (try simp at hs4)
    obtain ⟨hc4, hf4⟩ := bcell hb4
    (try have hz0_4 : w.heap.size < W4.heap.size := by omega)
    (try have hy0_4 : w.heap.size + 1 < W4.heap.size := by omega)
    (try have hz1_4 : W1.heap.size < W4.heap.size := by omega)
    (try have hy1_4 : W1.heap.size + 1 < W4.heap.size := by omega)
    (try have hz2_4 : W2.heap.size < W4.heap.size := by omega)
    (try have hy2_4 : W2.heap.size + 1 < W4.heap.size := by omega)
    (try have hz3_4 : W3.heap.size < W4.heap.size := by omega)
    (try have hy3_4 : W3.heap.size + 1 < W4.heap.size := by omega)
    go_wp2_with fail
    (with_reducible refine (iLeE _ _ _ _ _ HL2.out).mono ?_)
    rintro e W5 ⟨rfl, hb5⟩
    have hs5 := hb5.size
    (try simp at hs5)
    obtain ⟨hc5, hf5⟩ := bcell hb5
    (try have hz0_5 : w.heap.size < W5.heap.size := by omega)
    (try have hy0_5 : w.heap.size + 1 < W5.heap.size := by omega)
    (try have hz1_5 : W1.heap.size < W5.heap.size := by omega)
    (try have hy1_5 : W1.heap.size + 1 < W5.heap.size := by omega)
    (try have hz2_5 : W2.heap.size < W5.heap.size := by omega)
    (try have hy2_5 : W2.heap.size + 1 < W5.heap.size := by omega)
    (try have hz3_5 : W3.heap.size < W5.heap.size := by omega)
    (try have hy3_5 : W3.heap.size + 1 < W5.heap.size := by omega)
    (try have hz4_5 : W4.heap.size < W5.heap.size := by omega)
    (try have hy4_5 : W4.heap.size + 1 < W5.heap.size := by omega)
    obtain ⟨E, hE⟩ : ∃ E, N - O = E := ⟨_, rfl⟩
    have E1 : -500 ≤ E := by omega
    have E2 : E ≤ 500 := by omega
    have wE : IntKind.i64.wrap E = E := IntWalk.i64_in _ (by omega)
    obtain ⟨EA, hEA⟩ : ∃ D, ab E = D := ⟨_, rfl⟩
    have EA1 : EA ≤ 500 := by rw [← hEA]; exact ab_bd E1 E2
    have HEA := Lib.hid hEA
    clear hEA
    go_wp2_with fail
    (with_reducible refine (lAbE _ _ _ (by omega) (by omega) HEA.out).mono ?_)
    rintro e w' ⟨rfl, rfl⟩
    have HEE := Lib.hid hE
    clear hE
    by_cases hK2 : K2 = 0
    · subst hK2
      obtain ⟨⟨d1, d2⟩, ⟨d3, d4⟩, d5, d6⟩ := T4.out rfl
      obtain ⟨DX, hDX⟩ : ∃ E, X2 - x = E := ⟨_, rfl⟩
      obtain ⟨DY, hDY⟩ : ∃ E, Y2 - y = E := ⟨_, rfl⟩
      obtain ⟨DZ, hDZ⟩ : ∃ E, Z2 - z = E := ⟨_, rfl⟩
      have wX : IntKind.i64.wrap DX = DX := IntWalk.i64_in _ (by omega)
      have wY : IntKind.i64.wrap DY = DY := IntWalk.i64_in _ (by omega)
      have wZ : IntKind.i64.wrap DZ = DZ := IntWalk.i64_in _ (by omega)
      obtain ⟨AX, hAX⟩ : ∃ D, ab DX = D := ⟨_, rfl⟩
      obtain ⟨AY, hAY⟩ : ∃ D, ab DY = D := ⟨_, rfl⟩
      obtain ⟨AZ, hAZ⟩ : ∃ D, ab DZ = D := ⟨_, rfl⟩
      have AX1 : AX ≤ 1000 := by rw [← hAX]; exact ab_bd (by omega) (by omega)
      have AY1 : AY ≤ 1000 := by rw [← hAY]; exact ab_bd (by omega) (by omega)
      have AZ1 : AZ ≤ 1000 := by rw [← hAZ]; exact ab_bd (by omega) (by omega)
      have HAX := Lib.hid hAX
      have HAY := Lib.hid hAY
      have HAZ := Lib.hid hAZ
      clear hAX hAY hAZ
      go_wp2_with fail
      (with_reducible refine (lAbE _ _ _ (by omega) (by omega) HAX.out).mono ?_)
      rintro e w' ⟨rfl, rfl⟩
      go_wp2_with fail
      (with_reducible refine (lAbE _ _ _ (by omega) (by omega) HAY.out).mono ?_)
      rintro e w' ⟨rfl, rfl⟩
      go_wp2_with fail
      (with_reducible refine (lAbE _ _ _ (by omega) (by omega) HAZ.out).mono ?_)
      rintro e w' ⟨rfl, rfl⟩
      clear hDX hDY hDZ d1 d2 d3 d4 d5 d6
      go_wp2_with fail
      (with_reducible refine (sDrawBlv _ _ _ _ _ ((R1.out.low (by (repeat (first | exact Below.refl _ _ | assumption | (refine Below.drewN ?_ _) | (refine Below.drew ?_) | (refine Below.alloc ?_ (by first | (simp; done) | (simp; omega) | omega) _) | (refine Below.setCell ?_ (by first | (simp; done) | (simp; omega) | omega) _) | (refine Below.trans ?_ (Below.mono (by assumption) (by first | (simp; done) | (simp; omega) | omega))))))).up (by first | omega | (simp; omega))) N1.out).mono ?_)
      rintro e W6 ⟨p, q, r, p', q', r', s, rfl, hb6⟩
      have hs6 := hb6.size
      (try simp at hs6)
      obtain ⟨hc6, hf6⟩ := bcell hb6
      (try have hzA_6 : w.heap.size < W6.heap.size := by omega)
      (try have hzB_6 : w.heap.size + 1 < W6.heap.size := by omega)
      obtain ⟨CX, hCX⟩ : ∃ X, bvX p q r p' q' r' s = X := ⟨_, rfl⟩
      obtain ⟨CY, hCY⟩ : ∃ X, bvY p q r p' q' r' s = X := ⟨_, rfl⟩
      obtain ⟨CZ, hCZ⟩ : ∃ X, bvZ p q r p' q' r' s = X := ⟨_, rfl⟩
      obtain ⟨CK, hCK⟩ : ∃ X, bvC p q r p' q' r' s = X := ⟨_, rfl⟩
      have HBV := Lib.hid (And.intro hCX (And.intro hCY (And.intro hCZ hCK)))
      by_cases hck : CK = 0
      · have hgood := blv_good (hCK.trans hck)
        rw [hCX, hCY, hCZ] at hgood
        obtain ⟨NX, hNX⟩ : ∃ X, nvV p p q r = X := ⟨_, rfl⟩
        obtain ⟨NY, hNY⟩ : ∃ X, nvV q p q r = X := ⟨_, rfl⟩
        obtain ⟨NZ, hNZ⟩ : ∃ X, nvV r p q r = X := ⟨_, rfl⟩
        obtain ⟨NK, hNK⟩ : ∃ X, nvC p q r = X := ⟨_, rfl⟩
        rw [hNX, hNY, hNZ, hNK] at hgood
        have HNV := Lib.hid (And.intro hNX (And.intro hNY (And.intro hNZ hNK)))
        have HB0 := Lib.hid hgood.2
        have HVA := Lib.hid hgood.1
        subst hck
        clear hCX hCY hCZ hCK hNX hNY hNZ hNK hgood
        go_wp2_with fail
        (with_reducible refine (iBvE _ _ _ _ _ _ _ _ _ _ _ _ HBV.out).mono ?_)
        rintro e W7 ⟨rfl, hb7⟩
        have hs7 := hb7.size
        (try simp at hs7)
        obtain ⟨hc7, hf7⟩ := bcell hb7
        (try have hz0_7 : w.heap.size < W7.heap.size := by omega)
        (try have hy0_7 : w.heap.size + 1 < W7.heap.size := by omega)
        (try have hz1_7 : W1.heap.size < W7.heap.size := by omega)
        (try have hy1_7 : W1.heap.size + 1 < W7.heap.size := by omega)
        (try have hz2_7 : W2.heap.size < W7.heap.size := by omega)
        (try have hy2_7 : W2.heap.size + 1 < W7.heap.size := by omega)
        (try have hz3_7 : W3.heap.size < W7.heap.size := by omega)
        (try have hy3_7 : W3.heap.size + 1 < W7.heap.size := by omega)
        (try have hz4_7 : W4.heap.size < W7.heap.size := by omega)
        (try have hy4_7 : W4.heap.size + 1 < W7.heap.size := by omega)
        (try have hz5_7 : W5.heap.size < W7.heap.size := by omega)
        (try have hy5_7 : W5.heap.size + 1 < W7.heap.size := by omega)
        (try have hz6_7 : W6.heap.size < W7.heap.size := by omega)
        (try have hy6_7 : W6.heap.size + 1 < W7.heap.size := by omega)
        go_wp2_with fail
        (with_reducible refine (iNvE _ _ _ _ _ _ _ _ HNV.out).mono ?_)
        rintro e W8 ⟨rfl, hb8⟩
        have hs8 := hb8.size
        (try simp at hs8)
        obtain ⟨hc8, hf8⟩ := bcell hb8
        (try have hz0_8 : w.heap.size < W8.heap.size := by omega)
        (try have hy0_8 : w.heap.size + 1 < W8.heap.size := by omega)
        (try have hz1_8 : W1.heap.size < W8.heap.size := by omega)
        (try have hy1_8 : W1.heap.size + 1 < W8.heap.size := by omega)
        (try have hz2_8 : W2.heap.size < W8.heap.size := by omega)
        (try have hy2_8 : W2.heap.size + 1 < W8.heap.size := by omega)
        (try have hz3_8 : W3.heap.size < W8.heap.size := by omega)
        (try have hy3_8 : W3.heap.size + 1 < W8.heap.size := by omega)
        (try have hz4_8 : W4.heap.size < W8.heap.size := by omega)
        (try have hy4_8 : W4.heap.size + 1 < W8.heap.size := by omega)
        (try have hz5_8 : W5.heap.size < W8.heap.size := by omega)
        (try have hy5_8 : W5.heap.size + 1 < W8.heap.size := by omega)
        (try have hz6_8 : W6.heap.size < W8.heap.size := by omega)
        (try have hy6_8 : W6.heap.size + 1 < W8.heap.size := by omega)
        (try have hz7_8 : W7.heap.size < W8.heap.size := by omega)
        (try have hy7_8 : W7.heap.size + 1 < W8.heap.size := by omega)
        go_wp2_with fail
        (with_reducible refine (iBvE _ _ _ _ _ _ _ _ _ _ _ _ HB0.out).mono ?_)
        rintro e W9 ⟨rfl, hb9⟩
        have hs9 := hb9.size
        (try simp at hs9)
        obtain ⟨hc9, hf9⟩ := bcell hb9
        (try have hz0_9 : w.heap.size < W9.heap.size := by omega)
        (try have hy0_9 : w.heap.size + 1 < W9.heap.size := by omega)
        (try have hz1_9 : W1.heap.size < W9.heap.size := by omega)
        (try have hy1_9 : W1.heap.size + 1 < W9.heap.size := by omega)
        (try have hz2_9 : W2.heap.size < W9.heap.size := by omega)
        (try have hy2_9 : W2.heap.size + 1 < W9.heap.size := by omega)
        (try have hz3_9 : W3.heap.size < W9.heap.size := by omega)
        (try have hy3_9 : W3.heap.size + 1 < W9.heap.size := by omega)
        (try have hz4_9 : W4.heap.size < W9.heap.size := by omega)
        (try have hy4_9 : W4.heap.size + 1 < W9.heap.size := by omega)
        (try have hz5_9 : W5.heap.size < W9.heap.size := by omega)
        (try have hy5_9 : W5.heap.size + 1 < W9.heap.size := by omega)
        (try have hz6_9 : W6.heap.size < W9.heap.size := by omega)
        (try have hy6_9 : W6.heap.size + 1 < W9.heap.size := by omega)
        (try have hz7_9 : W7.heap.size < W9.heap.size := by omega)
        (try have hy7_9 : W7.heap.size + 1 < W9.heap.size := by omega)
        (try have hz8_9 : W8.heap.size < W9.heap.size := by omega)
        (try have hy8_9 : W8.heap.size + 1 < W9.heap.size := by omega)
        go_wp2_with fail
        (with_reducible refine (sVvE _ _ _ _ HVA.out).mono ?_)
        rintro e W10 ⟨rfl, hb10⟩
        have hs10 := hb10.size
        (try simp at hs10)
        obtain ⟨hc10, hf10⟩ := bcell hb10
        (try have hz0_10 : w.heap.size < W10.heap.size := by omega)
        (try have hy0_10 : w.heap.size + 1 < W10.heap.size := by omega)
        (try have hz1_10 : W1.heap.size < W10.heap.size := by omega)
        (try have hy1_10 : W1.heap.size + 1 < W10.heap.size := by omega)
        (try have hz2_10 : W2.heap.size < W10.heap.size := by omega)
        (try have hy2_10 : W2.heap.size + 1 < W10.heap.size := by omega)
        (try have hz3_10 : W3.heap.size < W10.heap.size := by omega)
        (try have hy3_10 : W3.heap.size + 1 < W10.heap.size := by omega)
        (try have hz4_10 : W4.heap.size < W10.heap.size := by omega)
        (try have hy4_10 : W4.heap.size + 1 < W10.heap.size := by omega)
        (try have hz5_10 : W5.heap.size < W10.heap.size := by omega)
        (try have hy5_10 : W5.heap.size + 1 < W10.heap.size := by omega)
        (try have hz6_10 : W6.heap.size < W10.heap.size := by omega)
        (try have hy6_10 : W6.heap.size + 1 < W10.heap.size := by omega)
        (try have hz7_10 : W7.heap.size < W10.heap.size := by omega)
        (try have hy7_10 : W7.heap.size + 1 < W10.heap.size := by omega)
        (try have hz8_10 : W8.heap.size < W10.heap.size := by omega)
        (try have hy8_10 : W8.heap.size + 1 < W10.heap.size := by omega)
        (try have hz9_10 : W9.heap.size < W10.heap.size := by omega)
        (try have hy9_10 : W9.heap.size + 1 < W10.heap.size := by omega)
        go_wp2
        go_ret
        exact ⟨by first | rfl | simp, by (repeat (first | exact Below.refl _ _ | assumption | (refine Below.drewN ?_ _) | (refine Below.drew ?_) | (refine Below.alloc ?_ (by first | (simp; done) | (simp; omega) | omega) _) | (refine Below.setCell ?_ (by first | (simp; done) | (simp; omega) | omega) _) | (refine Below.trans ?_ (Below.mono (by assumption) (by first | (simp; done) | (simp; omega) | omega)))))⟩
      · have hbad := blv_bad (fun h => hck (hCK.symm.trans h))
        rw [hCX, hCY, hCZ] at hbad
        obtain ⟨rfl, rfl, rfl⟩ := hbad
        have hckb : (CK == 0) = false := beq_false_of_ne hck
        clear hCX hCY hCZ hCK hck
        go_wp2_with fail
        (with_reducible refine (iBvE _ _ _ _ _ _ _ _ _ _ _ _ HBV.out).mono ?_)
        rintro e W7 ⟨rfl, hb7⟩
        have hs7 := hb7.size
        (try simp at hs7)
        obtain ⟨hc7, hf7⟩ := bcell hb7
        (try have hz0_7 : w.heap.size < W7.heap.size := by omega)
        (try have hy0_7 : w.heap.size + 1 < W7.heap.size := by omega)
        (try have hz1_7 : W1.heap.size < W7.heap.size := by omega)
        (try have hy1_7 : W1.heap.size + 1 < W7.heap.size := by omega)
        (try have hz2_7 : W2.heap.size < W7.heap.size := by omega)
        (try have hy2_7 : W2.heap.size + 1 < W7.heap.size := by omega)
        (try have hz3_7 : W3.heap.size < W7.heap.size := by omega)
        (try have hy3_7 : W3.heap.size + 1 < W7.heap.size := by omega)
        (try have hz4_7 : W4.heap.size < W7.heap.size := by omega)
        (try have hy4_7 : W4.heap.size + 1 < W7.heap.size := by omega)
        (try have hz5_7 : W5.heap.size < W7.heap.size := by omega)
        (try have hy5_7 : W5.heap.size + 1 < W7.heap.size := by omega)
        (try have hz6_7 : W6.heap.size < W7.heap.size := by omega)
        (try have hy6_7 : W6.heap.size + 1 < W7.heap.size := by omega)
        go_wp2
        go_ret
        exact ⟨by first | rfl | simp, by (repeat (first | exact Below.refl _ _ | assumption | (refine Below.drewN ?_ _) | (refine Below.drew ?_) | (refine Below.alloc ?_ (by first | (simp; done) | (simp; omega) | omega) _) | (refine Below.setCell ?_ (by first | (simp; done) | (simp; omega) | omega) _) | (refine Below.trans ?_ (Below.mono (by assumption) (by first | (simp; done) | (simp; omega) | omega)))))⟩
    · have hK2b : (K2 == 0) = false := beq_false_of_ne hK2
      clear hK2
      go_wp2_with fail
      (with_reducible refine (sDrawBlv _ _ _ _ _ ((R1.out.low (by (repeat (first | exact Below.refl _ _ | assumption | (refine Below.drewN ?_ _) | (refine Below.drew ?_) | (refine Below.alloc ?_ (by first | (simp; done) | (simp; omega) | omega) _) | (refine Below.setCell ?_ (by first | (simp; done) | (simp; omega) | omega) _) | (refine Below.trans ?_ (Below.mono (by assumption) (by first | (simp; done) | (simp; omega) | omega))))))).up (by first | omega | (simp; omega))) N1.out).mono ?_)
      rintro e W6 ⟨p, q, r, p', q', r', s, rfl, hb6⟩
      have hs6 := hb6.size
      (try simp at hs6)
      obtain ⟨hc6, hf6⟩ := bcell hb6
      (try have hzA_6 : w.heap.size < W6.heap.size := by omega)
      (try have hzB_6 : w.heap.size + 1 < W6.heap.size := by omega)
      obtain ⟨CX, hCX⟩ : ∃ X, bvX p q r p' q' r' s = X := ⟨_, rfl⟩
      obtain ⟨CY, hCY⟩ : ∃ X, bvY p q r p' q' r' s = X := ⟨_, rfl⟩
      obtain ⟨CZ, hCZ⟩ : ∃ X, bvZ p q r p' q' r' s = X := ⟨_, rfl⟩
      obtain ⟨CK, hCK⟩ : ∃ X, bvC p q r p' q' r' s = X := ⟨_, rfl⟩
      have HBV := Lib.hid (And.intro hCX (And.intro hCY (And.intro hCZ hCK)))
      by_cases hck : CK = 0
      · have hgood := blv_good (hCK.trans hck)
        rw [hCX, hCY, hCZ] at hgood
        obtain ⟨NX, hNX⟩ : ∃ X, nvV p p q r = X := ⟨_, rfl⟩
        obtain ⟨NY, hNY⟩ : ∃ X, nvV q p q r = X := ⟨_, rfl⟩
        obtain ⟨NZ, hNZ⟩ : ∃ X, nvV r p q r = X := ⟨_, rfl⟩
        obtain ⟨NK, hNK⟩ : ∃ X, nvC p q r = X := ⟨_, rfl⟩
        rw [hNX, hNY, hNZ, hNK] at hgood
        have HNV := Lib.hid (And.intro hNX (And.intro hNY (And.intro hNZ hNK)))
        have HB0 := Lib.hid hgood.2
        have HVA := Lib.hid hgood.1
        subst hck
        clear hCX hCY hCZ hCK hNX hNY hNZ hNK hgood
        go_wp2_with fail
        (with_reducible refine (iBvE _ _ _ _ _ _ _ _ _ _ _ _ HBV.out).mono ?_)
        rintro e W7 ⟨rfl, hb7⟩
        have hs7 := hb7.size
        (try simp at hs7)
        obtain ⟨hc7, hf7⟩ := bcell hb7
        (try have hz0_7 : w.heap.size < W7.heap.size := by omega)
        (try have hy0_7 : w.heap.size + 1 < W7.heap.size := by omega)
        (try have hz1_7 : W1.heap.size < W7.heap.size := by omega)
        (try have hy1_7 : W1.heap.size + 1 < W7.heap.size := by omega)
        (try have hz2_7 : W2.heap.size < W7.heap.size := by omega)
        (try have hy2_7 : W2.heap.size + 1 < W7.heap.size := by omega)
        (try have hz3_7 : W3.heap.size < W7.heap.size := by omega)
        (try have hy3_7 : W3.heap.size + 1 < W7.heap.size := by omega)
        (try have hz4_7 : W4.heap.size < W7.heap.size := by omega)
        (try have hy4_7 : W4.heap.size + 1 < W7.heap.size := by omega)
        (try have hz5_7 : W5.heap.size < W7.heap.size := by omega)
        (try have hy5_7 : W5.heap.size + 1 < W7.heap.size := by omega)
        (try have hz6_7 : W6.heap.size < W7.heap.size := by omega)
        (try have hy6_7 : W6.heap.size + 1 < W7.heap.size := by omega)
        go_wp2_with fail
        (with_reducible refine (iNvE _ _ _ _ _ _ _ _ HNV.out).mono ?_)
        rintro e W8 ⟨rfl, hb8⟩
        have hs8 := hb8.size
        (try simp at hs8)
        obtain ⟨hc8, hf8⟩ := bcell hb8
        (try have hz0_8 : w.heap.size < W8.heap.size := by omega)
        (try have hy0_8 : w.heap.size + 1 < W8.heap.size := by omega)
        (try have hz1_8 : W1.heap.size < W8.heap.size := by omega)
        (try have hy1_8 : W1.heap.size + 1 < W8.heap.size := by omega)
        (try have hz2_8 : W2.heap.size < W8.heap.size := by omega)
        (try have hy2_8 : W2.heap.size + 1 < W8.heap.size := by omega)
        (try have hz3_8 : W3.heap.size < W8.heap.size := by omega)
        (try have hy3_8 : W3.heap.size + 1 < W8.heap.size := by omega)
        (try have hz4_8 : W4.heap.size < W8.heap.size := by omega)
        (try have hy4_8 : W4.heap.size + 1 < W8.heap.size := by omega)
        (try have hz5_8 : W5.heap.size < W8.heap.size := by omega)
        (try have hy5_8 : W5.heap.size + 1 < W8.heap.size := by omega)
        (try have hz6_8 : W6.heap.size < W8.heap.size := by omega)
        (try have hy6_8 : W6.heap.size + 1 < W8.heap.size := by omega)
        (try have hz7_8 : W7.heap.size < W8.heap.size := by omega)
        (try have hy7_8 : W7.heap.size + 1 < W8.heap.size := by omega)
        go_wp2_with fail
        (with_reducible refine (iBvE _ _ _ _ _ _ _ _ _ _ _ _ HB0.out).mono ?_)
        rintro e W9 ⟨rfl, hb9⟩
        have hs9 := hb9.size
        (try simp at hs9)
        obtain ⟨hc9, hf9⟩ := bcell hb9
        (try have hz0_9 : w.heap.size < W9.heap.size := by omega)
        (try have hy0_9 : w.heap.size + 1 < W9.heap.size := by omega)
        (try have hz1_9 : W1.heap.size < W9.heap.size := by omega)
        (try have hy1_9 : W1.heap.size + 1 < W9.heap.size := by omega)
        (try have hz2_9 : W2.heap.size < W9.heap.size := by omega)
        (try have hy2_9 : W2.heap.size + 1 < W9.heap.size := by omega)
        (try have hz3_9 : W3.heap.size < W9.heap.size := by omega)
        (try have hy3_9 : W3.heap.size + 1 < W9.heap.size := by omega)
        (try have hz4_9 : W4.heap.size < W9.heap.size := by omega)
        (try have hy4_9 : W4.heap.size + 1 < W9.heap.size := by omega)
        (try have hz5_9 : W5.heap.size < W9.heap.size := by omega)
        (try have hy5_9 : W5.heap.size + 1 < W9.heap.size := by omega)
        (try have hz6_9 : W6.heap.size < W9.heap.size := by omega)
        (try have hy6_9 : W6.heap.size + 1 < W9.heap.size := by omega)
        (try have hz7_9 : W7.heap.size < W9.heap.size := by omega)
        (try have hy7_9 : W7.heap.size + 1 < W9.heap.size := by omega)
        (try have hz8_9 : W8.heap.size < W9.heap.size := by omega)
        (try have hy8_9 : W8.heap.size + 1 < W9.heap.size := by omega)
        go_wp2_with fail
        (with_reducible refine (sVvE _ _ _ _ HVA.out).mono ?_)
        rintro e W10 ⟨rfl, hb10⟩
        have hs10 := hb10.size
        (try simp at hs10)
        obtain ⟨hc10, hf10⟩ := bcell hb10
        (try have hz0_10 : w.heap.size < W10.heap.size := by omega)
        (try have hy0_10 : w.heap.size + 1 < W10.heap.size := by omega)
        (try have hz1_10 : W1.heap.size < W10.heap.size := by omega)
        (try have hy1_10 : W1.heap.size + 1 < W10.heap.size := by omega)
        (try have hz2_10 : W2.heap.size < W10.heap.size := by omega)
        (try have hy2_10 : W2.heap.size + 1 < W10.heap.size := by omega)
        (try have hz3_10 : W3.heap.size < W10.heap.size := by omega)
        (try have hy3_10 : W3.heap.size + 1 < W10.heap.size := by omega)
        (try have hz4_10 : W4.heap.size < W10.heap.size := by omega)
        (try have hy4_10 : W4.heap.size + 1 < W10.heap.size := by omega)
        (try have hz5_10 : W5.heap.size < W10.heap.size := by omega)
        (try have hy5_10 : W5.heap.size + 1 < W10.heap.size := by omega)
        (try have hz6_10 : W6.heap.size < W10.heap.size := by omega)
        (try have hy6_10 : W6.heap.size + 1 < W10.heap.size := by omega)
        (try have hz7_10 : W7.heap.size < W10.heap.size := by omega)
        (try have hy7_10 : W7.heap.size + 1 < W10.heap.size := by omega)
        (try have hz8_10 : W8.heap.size < W10.heap.size := by omega)
        (try have hy8_10 : W8.heap.size + 1 < W10.heap.size := by omega)
        (try have hz9_10 : W9.heap.size < W10.heap.size := by omega)
        (try have hy9_10 : W9.heap.size + 1 < W10.heap.size := by omega)
        go_wp2
        go_ret
        exact ⟨by first | rfl | simp, by (repeat (first | exact Below.refl _ _ | assumption | (refine Below.drewN ?_ _) | (refine Below.drew ?_) | (refine Below.alloc ?_ (by first | (simp; done) | (simp; omega) | omega) _) | (refine Below.setCell ?_ (by first | (simp; done) | (simp; omega) | omega) _) | (refine Below.trans ?_ (Below.mono (by assumption) (by first | (simp; done) | (simp; omega) | omega)))))⟩
      · have hbad := blv_bad (fun h => hck (hCK.symm.trans h))
        rw [hCX, hCY, hCZ] at hbad
        obtain ⟨rfl, rfl, rfl⟩ := hbad
        have hckb : (CK == 0) = false := beq_false_of_ne hck
        clear hCX hCY hCZ hCK hck
        go_wp2_with fail
        (with_reducible refine (iBvE _ _ _ _ _ _ _ _ _ _ _ _ HBV.out).mono ?_)
        rintro e W7 ⟨rfl, hb7⟩
        have hs7 := hb7.size
        (try simp at hs7)
        obtain ⟨hc7, hf7⟩ := bcell hb7
        (try have hz0_7 : w.heap.size < W7.heap.size := by omega)
        (try have hy0_7 : w.heap.size + 1 < W7.heap.size := by omega)
        (try have hz1_7 : W1.heap.size < W7.heap.size := by omega)
        (try have hy1_7 : W1.heap.size + 1 < W7.heap.size := by omega)
        (try have hz2_7 : W2.heap.size < W7.heap.size := by omega)
        (try have hy2_7 : W2.heap.size + 1 < W7.heap.size := by omega)
        (try have hz3_7 : W3.heap.size < W7.heap.size := by omega)
        (try have hy3_7 : W3.heap.size + 1 < W7.heap.size := by omega)
        (try have hz4_7 : W4.heap.size < W7.heap.size := by omega)
        (try have hy4_7 : W4.heap.size + 1 < W7.heap.size := by omega)
        (try have hz5_7 : W5.heap.size < W7.heap.size := by omega)
        (try have hy5_7 : W5.heap.size + 1 < W7.heap.size := by omega)
        (try have hz6_7 : W6.heap.size < W7.heap.size := by omega)
        (try have hy6_7 : W6.heap.size + 1 < W7.heap.size := by omega)
        go_wp2
        go_ret
        exact ⟨by first | rfl | simp, by (repeat (first | exact Below.refl _ _ | assumption | (refine Below.drewN ?_ _) | (refine Below.drew ?_) | (refine Below.alloc ?_ (by first | (simp; done) | (simp; omega) | omega) _) | (refine Below.setCell ?_ (by first | (simp; done) | (simp; omega) | omega) _) | (refine Below.trans ?_ (Below.mono (by assumption) (by first | (simp; done) | (simp; omega) | omega)))))⟩
  · have hKb : (K == 0) = false := beq_false_of_ne hK0
    clear hK0
    go_wp2_with fail
    (with_reducible refine (sDrawBlv _ _ _ _ _ ((R1.out.low (by (repeat (first | exact Below.refl _ _ | assumption | (refine Below.drewN ?_ _) | (refine Below.drew ?_) | (refine Below.alloc ?_ (by first | (simp; done) | (simp; omega) | omega) _) | (refine Below.setCell ?_ (by first | (simp; done) | (simp; omega) | omega) _) | (refine Below.trans ?_ (Below.mono (by assumption) (by first | (simp; done) | (simp; omega) | omega))))))).up (by first | omega | (simp; omega))) N1.out).mono ?_)
    rintro e W3 ⟨p, q, r, p', q', r', s, rfl, hb3⟩
    have hs3 := hb3.size
    (try simp at hs3)
    obtain ⟨hc3, hf3⟩ := bcell hb3
    (try have hzA_3 : w.heap.size < W3.heap.size := by omega)
    (try have hzB_3 : w.heap.size + 1 < W3.heap.size := by omega)
    obtain ⟨CX, hCX⟩ : ∃ X, bvX p q r p' q' r' s = X := ⟨_, rfl⟩
    obtain ⟨CY, hCY⟩ : ∃ X, bvY p q r p' q' r' s = X := ⟨_, rfl⟩
    obtain ⟨CZ, hCZ⟩ : ∃ X, bvZ p q r p' q' r' s = X := ⟨_, rfl⟩
    obtain ⟨CK, hCK⟩ : ∃ X, bvC p q r p' q' r' s = X := ⟨_, rfl⟩
    have HBV := Lib.hid (And.intro hCX (And.intro hCY (And.intro hCZ hCK)))
    by_cases hck : CK = 0
    · have hgood := blv_good (hCK.trans hck)
      rw [hCX, hCY, hCZ] at hgood
      obtain ⟨NX, hNX⟩ : ∃ X, nvV p p q r = X := ⟨_, rfl⟩
      obtain ⟨NY, hNY⟩ : ∃ X, nvV q p q r = X := ⟨_, rfl⟩
      obtain ⟨NZ, hNZ⟩ : ∃ X, nvV r p q r = X := ⟨_, rfl⟩
      obtain ⟨NK, hNK⟩ : ∃ X, nvC p q r = X := ⟨_, rfl⟩
      rw [hNX, hNY, hNZ, hNK] at hgood
      have HNV := Lib.hid (And.intro hNX (And.intro hNY (And.intro hNZ hNK)))
      have HB0 := Lib.hid hgood.2
      have HVA := Lib.hid hgood.1
      subst hck
      clear hCX hCY hCZ hCK hNX hNY hNZ hNK hgood
      go_wp2_with fail
      (with_reducible refine (iBvE _ _ _ _ _ _ _ _ _ _ _ _ HBV.out).mono ?_)
      rintro e W4 ⟨rfl, hb4⟩
      have hs4 := hb4.size
      (try simp at hs4)
      obtain ⟨hc4, hf4⟩ := bcell hb4
      (try have hz0_4 : w.heap.size < W4.heap.size := by omega)
      (try have hy0_4 : w.heap.size + 1 < W4.heap.size := by omega)
      (try have hz1_4 : W1.heap.size < W4.heap.size := by omega)
      (try have hy1_4 : W1.heap.size + 1 < W4.heap.size := by omega)
      (try have hz2_4 : W2.heap.size < W4.heap.size := by omega)
      (try have hy2_4 : W2.heap.size + 1 < W4.heap.size := by omega)
      (try have hz3_4 : W3.heap.size < W4.heap.size := by omega)
      (try have hy3_4 : W3.heap.size + 1 < W4.heap.size := by omega)
      go_wp2_with fail
      (with_reducible refine (iNvE _ _ _ _ _ _ _ _ HNV.out).mono ?_)
      rintro e W5 ⟨rfl, hb5⟩
      have hs5 := hb5.size
      (try simp at hs5)
      obtain ⟨hc5, hf5⟩ := bcell hb5
      (try have hz0_5 : w.heap.size < W5.heap.size := by omega)
      (try have hy0_5 : w.heap.size + 1 < W5.heap.size := by omega)
      (try have hz1_5 : W1.heap.size < W5.heap.size := by omega)
      (try have hy1_5 : W1.heap.size + 1 < W5.heap.size := by omega)
      (try have hz2_5 : W2.heap.size < W5.heap.size := by omega)
      (try have hy2_5 : W2.heap.size + 1 < W5.heap.size := by omega)
      (try have hz3_5 : W3.heap.size < W5.heap.size := by omega)
      (try have hy3_5 : W3.heap.size + 1 < W5.heap.size := by omega)
      (try have hz4_5 : W4.heap.size < W5.heap.size := by omega)
      (try have hy4_5 : W4.heap.size + 1 < W5.heap.size := by omega)
      go_wp2_with fail
      (with_reducible refine (iBvE _ _ _ _ _ _ _ _ _ _ _ _ HB0.out).mono ?_)
      rintro e W6 ⟨rfl, hb6⟩
      have hs6 := hb6.size
      (try simp at hs6)
      obtain ⟨hc6, hf6⟩ := bcell hb6
      (try have hz0_6 : w.heap.size < W6.heap.size := by omega)
      (try have hy0_6 : w.heap.size + 1 < W6.heap.size := by omega)
      (try have hz1_6 : W1.heap.size < W6.heap.size := by omega)
      (try have hy1_6 : W1.heap.size + 1 < W6.heap.size := by omega)
      (try have hz2_6 : W2.heap.size < W6.heap.size := by omega)
      (try have hy2_6 : W2.heap.size + 1 < W6.heap.size := by omega)
      (try have hz3_6 : W3.heap.size < W6.heap.size := by omega)
      (try have hy3_6 : W3.heap.size + 1 < W6.heap.size := by omega)
      (try have hz4_6 : W4.heap.size < W6.heap.size := by omega)
      (try have hy4_6 : W4.heap.size + 1 < W6.heap.size := by omega)
      (try have hz5_6 : W5.heap.size < W6.heap.size := by omega)
      (try have hy5_6 : W5.heap.size + 1 < W6.heap.size := by omega)
      go_wp2_with fail
      (with_reducible refine (sVvE _ _ _ _ HVA.out).mono ?_)
      rintro e W7 ⟨rfl, hb7⟩
      have hs7 := hb7.size
      (try simp at hs7)
      obtain ⟨hc7, hf7⟩ := bcell hb7
      (try have hz0_7 : w.heap.size < W7.heap.size := by omega)
      (try have hy0_7 : w.heap.size + 1 < W7.heap.size := by omega)
      (try have hz1_7 : W1.heap.size < W7.heap.size := by omega)
      (try have hy1_7 : W1.heap.size + 1 < W7.heap.size := by omega)
      (try have hz2_7 : W2.heap.size < W7.heap.size := by omega)
      (try have hy2_7 : W2.heap.size + 1 < W7.heap.size := by omega)
      (try have hz3_7 : W3.heap.size < W7.heap.size := by omega)
      (try have hy3_7 : W3.heap.size + 1 < W7.heap.size := by omega)
      (try have hz4_7 : W4.heap.size < W7.heap.size := by omega)
      (try have hy4_7 : W4.heap.size + 1 < W7.heap.size := by omega)
      (try have hz5_7 : W5.heap.size < W7.heap.size := by omega)
      (try have hy5_7 : W5.heap.size + 1 < W7.heap.size := by omega)
      (try have hz6_7 : W6.heap.size < W7.heap.size := by omega)
      (try have hy6_7 : W6.heap.size + 1 < W7.heap.size := by omega)
      go_wp2
      go_ret
      exact ⟨by first | rfl | simp, by (repeat (first | exact Below.refl _ _ | assumption | (refine Below.drewN ?_ _) | (refine Below.drew ?_) | (refine Below.alloc ?_ (by first | (simp; done) | (simp; omega) | omega) _) | (refine Below.setCell ?_ (by first | (simp; done) | (simp; omega) | omega) _) | (refine Below.trans ?_ (Below.mono (by assumption) (by first | (simp; done) | (simp; omega) | omega)))))⟩
    · have hbad := blv_bad (fun h => hck (hCK.symm.trans h))
      rw [hCX, hCY, hCZ] at hbad
      obtain ⟨rfl, rfl, rfl⟩ := hbad
      have hckb : (CK == 0) = false := beq_false_of_ne hck
      clear hCX hCY hCZ hCK hck
      go_wp2_with fail
      (with_reducible refine (iBvE _ _ _ _ _ _ _ _ _ _ _ _ HBV.out).mono ?_)
      rintro e W4 ⟨rfl, hb4⟩
      have hs4 := hb4.size
      (try simp at hs4)
      obtain ⟨hc4, hf4⟩ := bcell hb4
      (try have hz0_4 : w.heap.size < W4.heap.size := by omega)
      (try have hy0_4 : w.heap.size + 1 < W4.heap.size := by omega)
      (try have hz1_4 : W1.heap.size < W4.heap.size := by omega)
      (try have hy1_4 : W1.heap.size + 1 < W4.heap.size := by omega)
      (try have hz2_4 : W2.heap.size < W4.heap.size := by omega)
      (try have hy2_4 : W2.heap.size + 1 < W4.heap.size := by omega)
      (try have hz3_4 : W3.heap.size < W4.heap.size := by omega)
      (try have hy3_4 : W3.heap.size + 1 < W4.heap.size := by omega)
      go_wp2
      go_ret
      exact ⟨by first | rfl | simp, by (repeat (first | exact Below.refl _ _ | assumption | (refine Below.drewN ?_ _) | (refine Below.drew ?_) | (refine Below.alloc ?_ (by first | (simp; done) | (simp; omega) | omega) _) | (refine Below.setCell ?_ (by first | (simp; done) | (simp; omega) | omega) _) | (refine Below.trans ?_ (Below.mono (by assumption) (by first | (simp; done) | (simp; omega) | omega)))))⟩
end Go.Proofs.YtconhjidpoimaaaDoor
