/-
  The walk of the law on sines and arcs.
-/
import Derived.Test.YtgeipijifcebmaaDoorLsin
namespace Go.Proofs.YtgeipijifcebmaaDoor
set_option linter.unusedVariables false
set_option linter.unusedSimpArgs false
open Go.RowKit

set_option maxRecDepth 100000 in
set_option maxHeartbeats 8000000 in
theorem linesTrue (a0 : Option Addr) (len0 cap0 : Nat) (a1 : Option Addr) (len1 cap1 : Nat) (w : World) (h : 1048576 < len0 ∨ 1048576 < len1) :
    Calls Tryd.prog 14 #[.slice a0 len0 cap0, .slice a1 len1 cap1] w fun e w' => e = .returned (.bool true) ∧ Below w.heap.size w w' := by
  by_cases h0 : 1048576 < len0
  · have d0 := tooLong_t h0
    clear h h0
    go_enter Tryd.func14, Tryd.ntmps14
    go_wp2_with (go_at_call 47; (with_reducible refine (lB10Long _ _ _ _).mono ?_); rintro e w' ⟨rfl, rfl⟩)
    go_ret
    exact ⟨rfl, by (repeat (first | exact Below.refl _ _ | assumption | (refine Below.drewN ?_ _) | (refine Below.drew ?_) | (refine Below.alloc ?_ (by first | (simp; done) | (simp; omega) | omega) _) | (refine Below.setCell ?_ (by first | (simp; done) | (simp; omega) | omega) _) | (refine Below.trans ?_ (Below.mono (by assumption) (by first | (simp; done) | (simp; omega) | omega)))))⟩
  · have d0 := tooLong_f (show len0 ≤ 1048576 by omega)
    have d1 := tooLong_t (show 1048576 < len1 by omega)
    clear h h0
    go_enter Tryd.func14, Tryd.ntmps14
    go_wp2_with (go_at_call 47; (with_reducible refine (lB10Long _ _ _ _).mono ?_); rintro e w' ⟨rfl, rfl⟩)
    go_ret
    exact ⟨rfl, by (repeat (first | exact Below.refl _ _ | assumption | (refine Below.drewN ?_ _) | (refine Below.drew ?_) | (refine Below.alloc ?_ (by first | (simp; done) | (simp; omega) | omega) _) | (refine Below.setCell ?_ (by first | (simp; done) | (simp; omega) | omega) _) | (refine Below.trans ?_ (Below.mono (by assumption) (by first | (simp; done) | (simp; omega) | omega)))))⟩
set_option maxRecDepth 100000 in
set_option maxHeartbeats 16000000 in
theorem walk_FnSines (a0 : Option Addr) (len0 cap0 : Nat) (z0 : List Int) (a1 : Option Addr) (len1 cap1 : Nat) (z1 : List Int) (w : World) (w0 : IsRow .u8 w a0 len0 cap0 z0) (w1 : IsRow .u8 w a1 len1 cap1 z1) (hS : SinesIn w) :
    Calls Tryd.prog 14 #[.slice a0 len0 cap0, .slice a1 len1 cap1] w fun e w' => e = .returned (.bool true) ∧ Below w.heap.size w w' := by
  by_cases hl : 1048576 < len0 ∨ 1048576 < len1
  · exact linesTrue a0 len0 cap0 a1 len1 cap1 w hl
  have d0 := tooLong_f (show len0 ≤ 1048576 by omega)
  have d1 := tooLong_f (show len1 ≤ 1048576 by omega)
  have R0 := Lib.hid w0.rowB
  have R1 := Lib.hid w1.rowB
  clear w0 w1
  have n0 := Lib.hid (show len0 ≤ 1048576 by omega)
  have n1 := Lib.hid (show len1 ≤ 1048576 by omega)
  clear hl
  go_enter Tryd.func14, Tryd.ntmps14
  go_wp2_with fail
  (with_reducible refine (lB10Long _ _ _ _).mono ?_)
  rintro e w' ⟨rfl, rfl⟩
  go_wp2_with fail
  (with_reducible refine (lB10Long _ _ _ _).mono ?_)
  rintro e w' ⟨rfl, rfl⟩
  go_wp2_with fail
  (with_reducible refine (lB10Wide _ _ _ _ _ _ _ _ R0.out (by omega) (by omega) (by omega) (by omega) n0.out).mono ?_)
  rintro e w' ⟨v, rfl, ⟨hv1, hv2⟩, rfl⟩
  have HSQ := sq_sum v
  have HB := Lib.hid (at_back hv1 hv2)
  obtain ⟨s, hs⟩ : ∃ s, sinI v = s := ⟨_, rfl⟩
  obtain ⟨c, hc⟩ : ∃ c, cosI v = c := ⟨_, rfl⟩
  obtain ⟨s1, s2⟩ := sinI_bd v
  obtain ⟨c1, c2⟩ := cosI_bd v
  rw [hs] at s1 s2
  rw [hc] at c1 c2
  rw [hs, hc] at HSQ
  have HB2 : Hid (atA s c = v ∧ atC s c = 0) := by rw [← hs, ← hc]; exact HB.out
  clear HB
  have Q1 : Hid (sinI (-v) = -s) := by show _ = _; rw [sinI_neg, hs]
  have Q2 : Hid (cosI (-v) = c) := by show _ = _; rw [cosI_neg, hc]
  have Q3 : Hid (sinI (v + 180000) = -s) := by show _ = _; rw [sinI_half, hs]
  have Q4 : Hid (sinI (180000 - v) = s) := by show _ = _; rw [sinI_back, hs]
  have Hs := Lib.hid hs
  have Hc := Lib.hid hc
  clear hs hc
  obtain ⟨sq1, sq2⟩ := HSQ
  obtain ⟨ss1, ss2⟩ := mul_ok1' s1 s2 s1 s2
  obtain ⟨cc1, cc2⟩ := mul_ok1' c1 c2 c1 c2
  have ha := ab_le (x := s * s + c * c - 1000000000000) (b := 200000000) (by omega) (by omega)
  have ha0 := ab_nonneg (s * s + c * c - 1000000000000)
  go_wp2_with fail
  (with_reducible refine (iSineEq (v) (s) _ (by omega) (by omega) (by first | assumption | exact SinesIn.drewN (by assumption) _) Hs.out).mono ?_)
  rintro e w' ⟨rfl, n, rfl⟩
  go_wp2_with fail
  (with_reducible refine (iCosEq (v) (c) _ (by omega) (by omega) (by first | assumption | exact SinesIn.drewN (by assumption) _) Hc.out).mono ?_)
  rintro e w' ⟨rfl, n, rfl⟩
  go_wp2_with fail
  (with_reducible refine (iSineEq (-v) (-s) _ (by omega) (by omega) (by first | assumption | exact SinesIn.drewN (by assumption) _) Q1.out).mono ?_)
  rintro e w' ⟨rfl, n, rfl⟩
  go_wp2_with fail
  (with_reducible refine (iCosEq (-v) (c) _ (by omega) (by omega) (by first | assumption | exact SinesIn.drewN (by assumption) _) Q2.out).mono ?_)
  rintro e w' ⟨rfl, n, rfl⟩
  go_wp2_with fail
  (with_reducible refine (iSineEq (v + 180000) (-s) _ (by omega) (by omega) (by first | assumption | exact SinesIn.drewN (by assumption) _) Q3.out).mono ?_)
  rintro e w' ⟨rfl, n, rfl⟩
  go_wp2_with fail
  (with_reducible refine (iSineEq (180000 - v) (s) _ (by omega) (by omega) (by first | assumption | exact SinesIn.drewN (by assumption) _) Q4.out).mono ?_)
  rintro e w' ⟨rfl, n, rfl⟩
  go_wp2_with fail
  (with_reducible refine (lAbs _ _ (by omega) (by omega)).mono ?_)
  rintro e w' ⟨rfl, rfl⟩
  go_wp2_with fail
  (with_reducible refine (iArcTanEq s c v _ (by first | assumption | exact SinesIn.drewN (by assumption) _) HB2.out).mono ?_)
  rintro e w' ⟨rfl, n, rfl⟩
  go_wp2_with fail
  (with_reducible refine (iBtwSame _ _ (by omega) (by omega)).mono ?_)
  rintro e w' ⟨rfl, rfl⟩
  go_wp2_with fail
  (with_reducible refine (sDrawArcSine _ _ _ _ w.heap.size _ (RowB.low R1.out ((Below.refl _ _).drewN _)) (Nat.le_refl _) n1.out).mono ?_)
  rintro e w' ⟨x, rfl, ⟨hx1, hx2⟩, hbD⟩
  have hS2 := (hS.drewN _).below hbD
  have RD := Lib.hid ((RowB.low R1.out ((Below.refl _ _).drewN _)).below (Nat.le_refl _) hbD)
  clear R0 R1 Q1 Q2 Q3 Q4 Hs Hc HB2 ss1 ss2 cc1 cc2 sq1 sq2 ha ha0 d0 d1 hS
  cases hx : inB x (-1000000) 1000000
  · have A1 : Hid (asnA x = 0 ∧ unitC x = 2) := by show _ ∧ _; simp [asnA, unitC, hx]
    have A2 : Hid (acsA x = 0 ∧ unitC x = 2) := by show _ ∧ _; simp [acsA, unitC, hx]
    go_wp2_with fail
    (with_reducible refine (iArcSineEq x 0 2 _ (by first | assumption | exact SinesIn.drewN (by assumption) _) A1.out).mono ?_)
    rintro e w' ⟨rfl, n, rfl⟩
    go_wp2_with fail
    (with_reducible refine (iArcCosEq x 0 2 _ (by first | assumption | exact SinesIn.drewN (by assumption) _) A2.out).mono ?_)
    rintro e w' ⟨rfl, n, rfl⟩
    go_wp2
    go_ret
    exact ⟨rfl, by (repeat (first | exact Below.refl _ _ | assumption | (refine Below.drewN ?_ _) | (refine Below.drew ?_) | (refine Below.alloc ?_ (by first | (simp; done) | (simp; omega) | omega) _) | (refine Below.setCell ?_ (by first | (simp; done) | (simp; omega) | omega) _) | (refine Below.trans ?_ (Below.mono (by assumption) (by first | (simp; done) | (simp; omega) | omega)))))⟩
  · have u0 : unitC x = 0 := by simp [unitC, hx]
    obtain ⟨p1, p2, p3, p4⟩ := asn_spec hx
    obtain ⟨q1, q2, q3, q4⟩ := acs_spec hx
    obtain ⟨X, hX⟩ : ∃ X, asnA x = X := ⟨_, rfl⟩
    obtain ⟨Y, hY⟩ : ∃ Y, acsA x = Y := ⟨_, rfl⟩
    rw [hX] at p1 p2 p3 p4
    rw [hY] at q1 q2 q3 q4
    have A1 := Lib.hid (And.intro hX u0)
    have A2 := Lib.hid (And.intro hY u0)
    clear hX hY hx u0
    obtain ⟨sx, hsx⟩ : ∃ s, sinI X = s := ⟨_, rfl⟩
    obtain ⟨cy, hcy⟩ : ∃ c, cosI Y = c := ⟨_, rfl⟩
    rw [hsx] at p3
    rw [hcy] at q3
    have Hsx := Lib.hid hsx
    have Hcy := Lib.hid hcy
    clear hsx hcy
    obtain ⟨sx', hsx'⟩ : ∃ s, sinI (X - 1) = s := ⟨_, rfl⟩
    obtain ⟨cy', hcy'⟩ : ∃ c, cosI (Y - 1) = c := ⟨_, rfl⟩
    rw [hsx'] at p4
    rw [hcy'] at q4
    have Hsx' := Lib.hid hsx'
    have Hcy' := Lib.hid hcy'
    clear hsx' hcy'
    by_cases gx : -90000 < X
    · have p5 : sx' < x := by omega
      clear p4
      by_cases gy : 0 < Y
      · have q5 : x < cy' := by omega
        clear q4
        go_wp2_with fail
        (with_reducible refine (iArcSineEq x X 0 _ (by first | assumption | exact SinesIn.drewN (by assumption) _) A1.out).mono ?_)
        rintro e w' ⟨rfl, n, rfl⟩
        go_wp2_with fail
        (with_reducible refine (iArcCosEq x Y 0 _ (by first | assumption | exact SinesIn.drewN (by assumption) _) A2.out).mono ?_)
        rintro e w' ⟨rfl, n, rfl⟩
        go_wp2_with fail
        (with_reducible refine (iSineEq (X) (sx) _ (by omega) (by omega) (by first | assumption | exact SinesIn.drewN (by assumption) _) Hsx.out).mono ?_)
        rintro e w' ⟨rfl, n, rfl⟩
        go_wp2_with fail
        (with_reducible refine (iCosEq (Y) (cy) _ (by omega) (by omega) (by first | assumption | exact SinesIn.drewN (by assumption) _) Hcy.out).mono ?_)
        rintro e w' ⟨rfl, n, rfl⟩
        go_wp2_with fail
        (with_reducible refine (iSineEq (X - 1) (sx') _ (by omega) (by omega) (by first | assumption | exact SinesIn.drewN (by assumption) _) Hsx'.out).mono ?_)
        rintro e w' ⟨rfl, n, rfl⟩
        go_wp2_with fail
        (with_reducible refine (iCosEq (Y - 1) (cy') _ (by omega) (by omega) (by first | assumption | exact SinesIn.drewN (by assumption) _) Hcy'.out).mono ?_)
        rintro e w' ⟨rfl, n, rfl⟩
        go_wp2_with fail
        (with_reducible refine (lB10At _ _ _ _ w.heap.size _ _ _ (RowB.low RD.out ((Below.refl _ _).drewN _)) (by omega) (by omega) (by omega) (by omega) n1.out).mono ?_)
        rintro e w' ⟨h, rfl, ⟨hh1, hh2⟩, rfl⟩
        go_wp2_with fail
        (with_reducible refine (lB10At _ _ _ _ w.heap.size _ _ _ (RowB.low RD.out ((Below.refl _ _).drewN _)) (by omega) (by omega) (by omega) (by omega) n1.out).mono ?_)
        rintro e w' ⟨m, rfl, ⟨hm1, hm2⟩, rfl⟩
        go_wp2_with fail
        (with_reducible refine (iAohEq _ _ _ hh1 hh2 hm1 hm2).mono ?_)
        rintro e w' ⟨rfl, rfl⟩
        go_wp2_with fail
        (with_reducible refine (iHofEq _ _ _ hh1 hh2 hm1 hm2).mono ?_)
        rintro e w' ⟨rfl, rfl⟩
        go_wp2
        go_ret
        exact ⟨rfl, by (repeat (first | exact Below.refl _ _ | assumption | (refine Below.drewN ?_ _) | (refine Below.drew ?_) | (refine Below.alloc ?_ (by first | (simp; done) | (simp; omega) | omega) _) | (refine Below.setCell ?_ (by first | (simp; done) | (simp; omega) | omega) _) | (refine Below.trans ?_ (Below.mono (by assumption) (by first | (simp; done) | (simp; omega) | omega)))))⟩
      · clear q4
        go_wp2_with fail
        (with_reducible refine (iArcSineEq x X 0 _ (by first | assumption | exact SinesIn.drewN (by assumption) _) A1.out).mono ?_)
        rintro e w' ⟨rfl, n, rfl⟩
        go_wp2_with fail
        (with_reducible refine (iArcCosEq x Y 0 _ (by first | assumption | exact SinesIn.drewN (by assumption) _) A2.out).mono ?_)
        rintro e w' ⟨rfl, n, rfl⟩
        go_wp2_with fail
        (with_reducible refine (iSineEq (X) (sx) _ (by omega) (by omega) (by first | assumption | exact SinesIn.drewN (by assumption) _) Hsx.out).mono ?_)
        rintro e w' ⟨rfl, n, rfl⟩
        go_wp2_with fail
        (with_reducible refine (iCosEq (Y) (cy) _ (by omega) (by omega) (by first | assumption | exact SinesIn.drewN (by assumption) _) Hcy.out).mono ?_)
        rintro e w' ⟨rfl, n, rfl⟩
        go_wp2_with fail
        (with_reducible refine (iSineEq (X - 1) (sx') _ (by omega) (by omega) (by first | assumption | exact SinesIn.drewN (by assumption) _) Hsx'.out).mono ?_)
        rintro e w' ⟨rfl, n, rfl⟩
        go_wp2_with fail
        (with_reducible refine (lB10At _ _ _ _ w.heap.size _ _ _ (RowB.low RD.out ((Below.refl _ _).drewN _)) (by omega) (by omega) (by omega) (by omega) n1.out).mono ?_)
        rintro e w' ⟨h, rfl, ⟨hh1, hh2⟩, rfl⟩
        go_wp2_with fail
        (with_reducible refine (lB10At _ _ _ _ w.heap.size _ _ _ (RowB.low RD.out ((Below.refl _ _).drewN _)) (by omega) (by omega) (by omega) (by omega) n1.out).mono ?_)
        rintro e w' ⟨m, rfl, ⟨hm1, hm2⟩, rfl⟩
        go_wp2_with fail
        (with_reducible refine (iAohEq _ _ _ hh1 hh2 hm1 hm2).mono ?_)
        rintro e w' ⟨rfl, rfl⟩
        go_wp2_with fail
        (with_reducible refine (iHofEq _ _ _ hh1 hh2 hm1 hm2).mono ?_)
        rintro e w' ⟨rfl, rfl⟩
        go_wp2
        go_ret
        exact ⟨rfl, by (repeat (first | exact Below.refl _ _ | assumption | (refine Below.drewN ?_ _) | (refine Below.drew ?_) | (refine Below.alloc ?_ (by first | (simp; done) | (simp; omega) | omega) _) | (refine Below.setCell ?_ (by first | (simp; done) | (simp; omega) | omega) _) | (refine Below.trans ?_ (Below.mono (by assumption) (by first | (simp; done) | (simp; omega) | omega)))))⟩
    · clear p4
      by_cases gy : 0 < Y
      · have q5 : x < cy' := by omega
        clear q4
        go_wp2_with fail
        (with_reducible refine (iArcSineEq x X 0 _ (by first | assumption | exact SinesIn.drewN (by assumption) _) A1.out).mono ?_)
        rintro e w' ⟨rfl, n, rfl⟩
        go_wp2_with fail
        (with_reducible refine (iArcCosEq x Y 0 _ (by first | assumption | exact SinesIn.drewN (by assumption) _) A2.out).mono ?_)
        rintro e w' ⟨rfl, n, rfl⟩
        go_wp2_with fail
        (with_reducible refine (iSineEq (X) (sx) _ (by omega) (by omega) (by first | assumption | exact SinesIn.drewN (by assumption) _) Hsx.out).mono ?_)
        rintro e w' ⟨rfl, n, rfl⟩
        go_wp2_with fail
        (with_reducible refine (iCosEq (Y) (cy) _ (by omega) (by omega) (by first | assumption | exact SinesIn.drewN (by assumption) _) Hcy.out).mono ?_)
        rintro e w' ⟨rfl, n, rfl⟩
        go_wp2_with fail
        (with_reducible refine (iCosEq (Y - 1) (cy') _ (by omega) (by omega) (by first | assumption | exact SinesIn.drewN (by assumption) _) Hcy'.out).mono ?_)
        rintro e w' ⟨rfl, n, rfl⟩
        go_wp2_with fail
        (with_reducible refine (lB10At _ _ _ _ w.heap.size _ _ _ (RowB.low RD.out ((Below.refl _ _).drewN _)) (by omega) (by omega) (by omega) (by omega) n1.out).mono ?_)
        rintro e w' ⟨h, rfl, ⟨hh1, hh2⟩, rfl⟩
        go_wp2_with fail
        (with_reducible refine (lB10At _ _ _ _ w.heap.size _ _ _ (RowB.low RD.out ((Below.refl _ _).drewN _)) (by omega) (by omega) (by omega) (by omega) n1.out).mono ?_)
        rintro e w' ⟨m, rfl, ⟨hm1, hm2⟩, rfl⟩
        go_wp2_with fail
        (with_reducible refine (iAohEq _ _ _ hh1 hh2 hm1 hm2).mono ?_)
        rintro e w' ⟨rfl, rfl⟩
        go_wp2_with fail
        (with_reducible refine (iHofEq _ _ _ hh1 hh2 hm1 hm2).mono ?_)
        rintro e w' ⟨rfl, rfl⟩
        go_wp2
        go_ret
        exact ⟨rfl, by (repeat (first | exact Below.refl _ _ | assumption | (refine Below.drewN ?_ _) | (refine Below.drew ?_) | (refine Below.alloc ?_ (by first | (simp; done) | (simp; omega) | omega) _) | (refine Below.setCell ?_ (by first | (simp; done) | (simp; omega) | omega) _) | (refine Below.trans ?_ (Below.mono (by assumption) (by first | (simp; done) | (simp; omega) | omega)))))⟩
      · clear q4
        go_wp2_with fail
        (with_reducible refine (iArcSineEq x X 0 _ (by first | assumption | exact SinesIn.drewN (by assumption) _) A1.out).mono ?_)
        rintro e w' ⟨rfl, n, rfl⟩
        go_wp2_with fail
        (with_reducible refine (iArcCosEq x Y 0 _ (by first | assumption | exact SinesIn.drewN (by assumption) _) A2.out).mono ?_)
        rintro e w' ⟨rfl, n, rfl⟩
        go_wp2_with fail
        (with_reducible refine (iSineEq (X) (sx) _ (by omega) (by omega) (by first | assumption | exact SinesIn.drewN (by assumption) _) Hsx.out).mono ?_)
        rintro e w' ⟨rfl, n, rfl⟩
        go_wp2_with fail
        (with_reducible refine (iCosEq (Y) (cy) _ (by omega) (by omega) (by first | assumption | exact SinesIn.drewN (by assumption) _) Hcy.out).mono ?_)
        rintro e w' ⟨rfl, n, rfl⟩
        go_wp2_with fail
        (with_reducible refine (lB10At _ _ _ _ w.heap.size _ _ _ (RowB.low RD.out ((Below.refl _ _).drewN _)) (by omega) (by omega) (by omega) (by omega) n1.out).mono ?_)
        rintro e w' ⟨h, rfl, ⟨hh1, hh2⟩, rfl⟩
        go_wp2_with fail
        (with_reducible refine (lB10At _ _ _ _ w.heap.size _ _ _ (RowB.low RD.out ((Below.refl _ _).drewN _)) (by omega) (by omega) (by omega) (by omega) n1.out).mono ?_)
        rintro e w' ⟨m, rfl, ⟨hm1, hm2⟩, rfl⟩
        go_wp2_with fail
        (with_reducible refine (iAohEq _ _ _ hh1 hh2 hm1 hm2).mono ?_)
        rintro e w' ⟨rfl, rfl⟩
        go_wp2_with fail
        (with_reducible refine (iHofEq _ _ _ hh1 hh2 hm1 hm2).mono ?_)
        rintro e w' ⟨rfl, rfl⟩
        go_wp2
        go_ret
        exact ⟨rfl, by (repeat (first | exact Below.refl _ _ | assumption | (refine Below.drewN ?_ _) | (refine Below.drew ?_) | (refine Below.alloc ?_ (by first | (simp; done) | (simp; omega) | omega) _) | (refine Below.setCell ?_ (by first | (simp; done) | (simp; omega) | omega) _) | (refine Below.trans ?_ (Below.mono (by assumption) (by first | (simp; done) | (simp; omega) | omega)))))⟩
end Go.Proofs.YtgeipijifcebmaaDoor
