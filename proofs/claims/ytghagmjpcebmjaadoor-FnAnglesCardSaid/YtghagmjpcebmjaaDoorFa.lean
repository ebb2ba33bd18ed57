/-
  The law on angles.
-/
import Derived.Test.YtghagmjpcebmjaaDoorRa
import Derived.Test.YtghagmjpcebmjaaDoorAngle
import Derived.Test.YtghagmjpcebmjaaDoorWid
namespace Go.Proofs.YtghagmjpcebmjaaDoor
set_option linter.unusedVariables false
set_option linter.unusedSimpArgs false
open Go.RowKit
open Go.Lib (decDigits itoa)

theorem btw_comm (a b : Int) : btw b a = btw a b := by unfold btw; omega
theorem btw_bd (a b : Int) : 0 ≤ btw a b ∧ btw a b ≤ 180000 := by unfold btw; omega
theorem ab_sgn (a b : Int) : ab (sgn a b) = btw a b := by
  unfold ab sgn btw
  split <;> split <;> omega
theorem sgn_to (a b : Int) : (a % 360000 + sgn a b) % 360000 = b % 360000 := by
  unfold sgn
  split <;> omega
theorem tur_near (x y s : Int) (hs : 0 ≤ s) : btw (turA x y s) y ≤ btw x y ∧ (s < btw x y → btw (turA x y s) y = btw x y - s) ∧ (btw x y ≤ s → btw (turA x y s) y = 0) := by
  unfold turA
  rw [if_neg (by omega)]
  have e := ab_sgn x y
  have g := sgn_to x y
  have b := sgn_bd x y
  generalize sgn x y = S at *
  have eb : btw x y = ab S := e.symm
  rw [eb]
  unfold ab at *
  unfold btw
  refine ⟨?_, ?_, ?_⟩
  · split <;> omega
  · split <;> intro h <;> omega
  · split <;> intro h <;> omega
theorem turA_bd (x y s : Int) : 0 ≤ turA x y s ∧ turA x y s < 360000 := by unfold turA; split <;> omega
theorem ang_text {N : Int} (h0 : 0 ≤ N) (h1 : N < 360000) : IsAng (atT N) N := ⟨(atT_yes (inB_mk (by omega))).symm, by omega, by omega⟩
theorem atT_len {N : Int} (h0 : 0 ≤ N) (h1 : N < 360000) : (atT N).length ≤ 1048576 := by
  rw [atT_yes (inB_mk (by omega)), atL_len]
  have := bod_len2 (u := N.natAbs) (by omega)
  split <;> omega
theorem iBetE (a b D : Int) (w : World) (ha : I64 a) (hb : I64 b) (e : btw a b = D) :
    Calls Tryd.prog 50 #[.int .i64 a, .int .i64 b] w fun e w' => e = .returned (.int .i64 D) ∧ w = w' := by subst e; exact iBetween a b w ha.1 ha.2 hb.1 hb.2
theorem iSgnE (a b S : Int) (w : World) (ha : I64 a) (hb : I64 b) (e : sgn a b = S) :
    Calls Tryd.prog 51 #[.int .i64 a, .int .i64 b] w fun e w' => e = .returned (.int .i64 S) ∧ w = w' := by subst e; exact iSigned a b w ha.1 ha.2 hb.1 hb.2
theorem iNrmE (a M : Int) (w : World) (ha : I64 a) (e : a % 360000 = M) :
    Calls Tryd.prog 52 #[.int .i64 a] w fun e w' => e = .returned (.int .i64 M) ∧ w = w' := by subst e; exact iNormalAngle a w ha.1 ha.2
theorem lAbsE (x D : Int) (w : World) (h1 : -180000 < x) (h2 : x ≤ 180000) (e : ab x = D) :
    Calls Tryd.prog 53 #[.int .i64 x] w fun e w' => e = .returned (.int .i64 D) ∧ w = w' := by subst e; exact lAbs x w (by omega) (by omega)
theorem iAtE (a : Int) (T : ByteArray) (w : World) (hT : TabIn w) (e : tx (atT a) = T) :
    Calls Tryd.prog 18 #[.int .i64 a] w fun e w' => e = .returned (.string T) ∧ Below w.heap.size w w' := by subst e; exact iAngleText a w hT
theorem iRaE (T : ByteArray) (N : Int) (w : World) (hs : T.size ≤ 1048576) (hT : TabIn w) (hE : ErrIn w) (h : IsAng T.data.toList N) :
    Calls Tryd.prog 37 #[.string T] w fun e w' => e = .returned (.tuple #[.int .i64 N, .bool true]) ∧ Below w.heap.size w w' := by
  have := iReadAngle T w hs hT hE
  rw [(ra_yes h).1, (ra_yes h).2] at this
  exact this
theorem iTurE (x y s Z C : Int) (w : World) (hx : I64 x) (hy : I64 y) (hs : I64 s) (e1 : turA x y s = Z) (e2 : turC s = C) :
    Calls Tryd.prog 55 #[.int .i64 x, .int .i64 y, .int .i64 s] w fun e w' => e = .returned (.tuple #[.int .i64 Z, .int .i64 C]) ∧ w = w' := by subst e1 e2; exact iTurn x y s w hx.1 hx.2 hy.1 hy.2 hs.1 hs.2
set_option maxRecDepth 100000 in
set_option maxHeartbeats 4000000 in
theorem faTrue (a0 : Option Addr) (len0 cap0 : Nat) (a1 : Option Addr) (len1 cap1 : Nat) (w : World) (h : tooLong len0 = true ∨ (tooLong len0 = false ∧ tooLong len1 = true)) :
    Calls Tryd.prog 14 #[.slice a0 len0 cap0, .slice a1 len1 cap1] w fun e w' => e = .returned (.bool true) ∧ Below w.heap.size w w' := by
  rcases h with h | ⟨h, h'⟩
  all_goals
    go_enter Tryd.func14, Tryd.ntmps14
    go_wp2_with (go_at_call 48; (with_reducible refine (lB10Long _ _ _ _).mono ?_); rintro e w' ⟨rfl, rfl⟩)
    go_ret
    exact ⟨rfl, by (repeat (first | exact Below.refl _ _ | assumption | (refine Below.drewN ?_ _) | (refine Below.drew ?_) | (refine Below.alloc ?_ (by first | (simp; done) | (simp; omega) | omega) _) | (refine Below.setCell ?_ (by first | (simp; done) | (simp; omega) | omega) _) | (refine Below.trans ?_ (Below.mono (by assumption) (by first | (simp; done) | (simp; omega) | omega)))))⟩
set_option maxRecDepth 100000 in
set_option maxHeartbeats 8000000 in
theorem walk_FnAngles (a0 : Option Addr) (len0 cap0 : Nat) (z0 : List Int) (a1 : Option Addr) (len1 cap1 : Nat) (z1 : List Int) (w : World) (w0 : IsRow .u8 w a0 len0 cap0 z0) (w1 : IsRow .u8 w a1 len1 cap1 z1) (hT : TabIn w) (hE : ErrIn w) :
    Calls Tryd.prog 14 #[.slice a0 len0 cap0, .slice a1 len1 cap1] w fun e w' => e = .returned (.bool true) ∧ Below w.heap.size w w' := by
  by_cases g0 : 1048576 < len0
  · exact faTrue _ _ _ _ _ _ _ (.inl (tooLong_t g0))
  by_cases g1 : 1048576 < len1
  · exact faTrue _ _ _ _ _ _ _ (.inr ⟨tooLong_f (by omega), tooLong_t g1⟩)
  have l0 : tooLong len0 = false := tooLong_f (by omega)
  have l1 : tooLong len1 = false := tooLong_f (by omega)
  have N0 : Hid (len0 ≤ 1048576) := by show _ ≤ _; omega
  have N1 : Hid (len1 ≤ 1048576) := by show _ ≤ _; omega
  clear g0 g1
  have R0 := Lib.hid w0.rowB
  have R1 := Lib.hid w1.rowB
  clear w0 w1
  have HT := Lib.hid hT
  have HE := Lib.hid hE
  clear hT hE
  go_enter Tryd.func14, Tryd.ntmps14
  go_wp2_with fail
  (with_reducible refine (lB10Long _ _ _ _).mono ?_)
  rintro e w' ⟨rfl, rfl⟩
  go_wp2_with fail
  (with_reducible refine (lB10Long _ _ _ _).mono ?_)
  rintro e w' ⟨rfl, rfl⟩
  go_wp2_with fail
  (with_reducible refine (sDrawAB _ _ _ _ _ R0.out N0.out).mono ?_)
  rintro e W1 ⟨a, b, rfl, ha, hb, hb1⟩
  have HA := Lib.hid ha
  have HBb := Lib.hid hb
  clear ha hb
  have HR1 := Lib.hid (R1.out.low hb1)
  have HT1 := Lib.hid (HT.out.below hb1)
  have HE1 := Lib.hid (HE.out.below hb1)
  obtain ⟨D, hD⟩ : ∃ D, btw a b = D := ⟨_, rfl⟩
  obtain ⟨S, hS⟩ : ∃ S, sgn a b = S := ⟨_, rfl⟩
  obtain ⟨N, hN⟩ : ∃ N, a % 360000 = N := ⟨_, rfl⟩
  obtain ⟨M, hM⟩ : ∃ M, b % 360000 = M := ⟨_, rfl⟩
  have D1 : 0 ≤ D := by rw [← hD]; exact (btw_bd a b).1
  have D2 : D ≤ 180000 := by rw [← hD]; exact (btw_bd a b).2
  have S1 : -180000 < S := by rw [← hS]; exact (sgn_bd a b).1
  have S2 : S ≤ 180000 := by rw [← hS]; exact (sgn_bd a b).2
  have n1 : 0 ≤ N := by omega
  have n2 : N < 360000 := by omega
  have HD := Lib.hid hD
  have HD' : Hid (btw b a = D) := by show _ = _; rw [btw_comm]; exact hD
  have HS := Lib.hid hS
  have HAS : Hid (ab S = D) := by show _ = _; rw [← hS, ← hD]; exact ab_sgn a b
  have HN := Lib.hid hN
  have HM := Lib.hid hM
  have HNS : Hid ((N + S) % 360000 = M) := by show _ = _; rw [← hN, ← hS, ← hM]; exact sgn_to a b
  clear hD hS hN hM
  obtain ⟨T, hTx⟩ : ∃ T, tx (atT N) = T := ⟨_, rfl⟩
  have HTx := Lib.hid hTx
  have HTs : Hid (T.size ≤ 1048576) := by show _ ≤ _; rw [← hTx, tx_size]; exact atT_len n1 n2
  have HTa : Hid (IsAng T.data.toList N) := by show IsAng _ _; rw [← hTx, tx_list]; exact ang_text n1 n2
  clear hTx
  go_wp2_with fail
  (with_reducible refine (iBetE _ _ _ _ HA.out HBb.out HD.out).mono ?_)
  rintro e w' ⟨rfl, rfl⟩
  go_wp2_with fail
  (with_reducible refine (iSgnE _ _ _ _ HA.out HBb.out HS.out).mono ?_)
  rintro e w' ⟨rfl, rfl⟩
  go_wp2_with fail
  (with_reducible refine (iNrmE _ _ _ HA.out HN.out).mono ?_)
  rintro e w' ⟨rfl, rfl⟩
  go_wp2_with fail
  (with_reducible refine (iBetE _ _ _ _ HBb.out HA.out HD'.out).mono ?_)
  rintro e w' ⟨rfl, rfl⟩
  go_wp2_with fail
  (with_reducible refine (lAbsE _ _ _ (by omega) (by omega) HAS.out).mono ?_)
  rintro e w' ⟨rfl, rfl⟩
  go_wp2_with fail
  (with_reducible refine (iNrmE _ _ _ (by unfold I64; omega) HNS.out).mono ?_)
  rintro e w' ⟨rfl, rfl⟩
  go_wp2_with fail
  (with_reducible refine (iNrmE _ _ _ HBb.out HM.out).mono ?_)
  rintro e w' ⟨rfl, rfl⟩
  go_wp2_with fail
  (with_reducible refine (iAtE _ _ _ HT1.out HTx.out).mono ?_)
  rintro e W2 ⟨rfl, hb2⟩
  go_wp2_with fail
  (with_reducible refine (iRaE _ _ _ HTs.out (HT1.out.below hb2) (HE1.out.below hb2) HTa.out).mono ?_)
  rintro e W3 ⟨rfl, hb3⟩
  have HW3 : Hid (Below w.heap.size w W3) := by
    have s1 := hb1.size
    have s2 := hb2.size
    exact (hb1.trans (hb2.mono s1)).trans (hb3.mono (Nat.le_trans s1 s2))
  have HRW : Hid (RowB W3 w.heap.size a1 len1 z1) := R1.out.low HW3.out
  have HRW' : Hid (RowB W3 W3.heap.size a1 len1 z1) := by
    rcases HRW.out with h | ⟨bb, o, h1, h2, h3⟩
    · exact .inl h
    · exact .inr ⟨bb, o, h1, Nat.lt_of_lt_of_le h2 HW3.out.size, h3⟩
  clear hb1 hb2 hb3
  go_wp2_with fail
  (with_reducible refine (sDrawTT _ _ _ _ _ HRW'.out N1.out).mono ?_)
  rintro e W4 ⟨x, y, s, rfl, hx, hy, hs, hb4⟩
  have HX := Lib.hid hx
  have HY := Lib.hid hy
  have HSS := Lib.hid hs
  obtain ⟨s1, s2⟩ := hs
  clear hx hy
  have HW4 : Hid (Below w.heap.size w W4) := HW3.out.trans (hb4.mono HW3.out.size)
  clear hb4
  by_cases hneg : s < 0
  · have e1 : Hid (turA x y s = 0) := by show _ = _; unfold turA; rw [if_pos hneg]
    have e2 : Hid (turC s = 2) := by show _ = _; unfold turC; rw [if_pos hneg]
    go_wp2_with fail
    (with_reducible refine (iTurE _ _ _ _ _ _ HX.out HY.out HSS.out e1.out e2.out).mono ?_)
    rintro e w' ⟨rfl, rfl⟩
    go_wp2
    go_ret
    exact ⟨rfl, HW4.out⟩
  · have e2 : Hid (turC s = 0) := by show _ = _; unfold turC; rw [if_neg hneg]
    have tn := tur_near x y s (by omega)
    have zb := turA_bd x y s
    obtain ⟨Z, hZ⟩ : ∃ Z, turA x y s = Z := ⟨_, rfl⟩
    rw [hZ] at tn zb
    obtain ⟨F, hF⟩ : ∃ F, btw x y = F := ⟨_, rfl⟩
    obtain ⟨L, hL⟩ : ∃ L, btw Z y = L := ⟨_, rfl⟩
    rw [hF, hL] at tn
    have fb : 0 ≤ F ∧ F ≤ 180000 := by rw [← hF]; exact btw_bd x y
    have lb : 0 ≤ L ∧ L ≤ 180000 := by rw [← hL]; exact btw_bd Z y
    have HZ := Lib.hid hZ
    have HF := Lib.hid hF
    have HL := Lib.hid hL
    have HZI : Hid (I64 Z) := by show I64 Z; unfold I64; omega
    obtain ⟨f1, f2⟩ := fb
    obtain ⟨L1, L2⟩ := lb
    obtain ⟨t1, t2, t3⟩ := tn
    clear hZ hF hL zb
    by_cases hlt : s < F
    · have t4 := t2 hlt
      have q1 : (L == F - s) = true := by simp; omega
      have q2 : (decide (s < F)) = true := by simp; omega
      have q3 : decide (F ≤ s) = false := by simp; omega
      clear t2 t3
      go_wp2_with fail
      (with_reducible refine (iTurE _ _ _ _ _ _ HX.out HY.out HSS.out HZ.out e2.out).mono ?_)
      rintro e w' ⟨rfl, rfl⟩
      go_wp2_with fail
      (with_reducible refine (iBetE _ _ _ _ HX.out HY.out HF.out).mono ?_)
      rintro e w' ⟨rfl, rfl⟩
      go_wp2_with fail
      (with_reducible refine (iBetE _ _ _ _ HZI.out HY.out HL.out).mono ?_)
      rintro e w' ⟨rfl, rfl⟩
      have HF' : True := trivial
      go_wp2
      all_goals go_ret
      all_goals exact ⟨by first | rfl | simp [*], HW4.out⟩
    · have t4 := t3 (by omega)
      subst t4
      have q2 : (decide (s < F)) = false := by simp; omega
      have q3 : decide (F ≤ s) = true := by simp; omega
      clear t2 t3
      go_wp2_with fail
      (with_reducible refine (iTurE _ _ _ _ _ _ HX.out HY.out HSS.out HZ.out e2.out).mono ?_)
      rintro e w' ⟨rfl, rfl⟩
      go_wp2_with fail
      (with_reducible refine (iBetE _ _ _ _ HX.out HY.out HF.out).mono ?_)
      rintro e w' ⟨rfl, rfl⟩
      go_wp2_with fail
      (with_reducible refine (iBetE _ _ _ _ HZI.out HY.out HL.out).mono ?_)
      rintro e w' ⟨rfl, rfl⟩
      go_wp2
      all_goals go_ret
      all_goals exact ⟨by first | rfl | simp [*], HW4.out⟩
end Go.Proofs.YtghagmjpcebmjaaDoor
