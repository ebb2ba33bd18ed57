/-
  Contracts of the sines and cosines, over worlds in which the program's table holds its numbers.
-/
import Derived.Test.YtmkmhljiajgibaaGreatDoorRows
import Derived.WalkKit
import Derived.BigQuiet
import Derived.Deep.QuietTactic
import Derived.WalkLawsBesides
import Derived.Lib.LaidTab
import Derived.Lib.Hide
import Derived.Test.YtmkmhljiajgibaaGreatDoorMsin
import Derived.Test.YtmkmhljiajgibaaGreatDoorAngle
namespace Go.Proofs.YtmkmhljiajgibaaGreatDoor
set_option linter.unusedVariables false
set_option linter.unusedSimpArgs false
open Go.RowKit

/-- The table's cells hold the sines of whole degrees. -/
def SinesIn (w : World) : Prop := ∀ i, i < 91 → w.cell? ⟨0, i, none⟩ = some (.int .i64 (tab i))
theorem SinesIn.drewN {w : World} (h : SinesIn w) (n : Nat) : SinesIn (w.drewN n) := h
theorem SinesIn.lt {w : World} (h : SinesIn w) : 0 < w.heap.size := by
  have h0 := h 0 (by omega)
  rcases Nat.lt_or_ge 0 w.heap.size with g | g
  · exact g
  · simp [World.cell?, Array.getElem?_eq_none g] at h0
theorem SinesIn.below {w w' : World} (h : SinesIn w) (hb : Below w.heap.size w w') : SinesIn w' := fun i hi => by
  rw [hb.cell (p := ⟨0, i, none⟩) h.lt]; exact h i hi
theorem SinesIn.alloc {w : World} (h : SinesIn w) (o : Obj) : SinesIn (w.alloc o) := h.below ((Below.refl _ _).alloc (Nat.le_refl _) o)
theorem gSines : Tryz.prog.globalNamed "loop.example/g00955/impl.sines" = some 0 := by kernel_rfl
theorem gSinesType : (Tryz.prog.globals[0]?).map (·.type) = some 71 := by kernel_rfl
theorem cellsSines : Tryz.prog.cellsOf 71 = 91 := by kernel_rfl
theorem cellsInt64 : Tryz.prog.cellsOf 2 = 1 := by kernel_rfl
set_option maxRecDepth 100000 in
theorem sinesOf {W : World} {rest : List (String × DataW Unit)} (h : laidMet Tryz.prog (("loop.example/g00955/impl.sines", Lib.tabData .i64 sinT) :: rest) W) : SinesIn W := fun i hi =>
  (Lib.tabIs_of_head gSines gSinesType Tryz.underlying71 Tryz.underlying2 cellsInt64 cellsSines h).cell gSines i hi
theorem iNormM (a m : Int) (w : World) (h1 : -9223372036854775808 ≤ a) (h2 : a ≤ 9223372036854775807) (hm : a % 360000 = m) :
    Calls Tryz.prog 25 #[.int .i64 a] w fun e w' => e = .returned (.int .i64 m) ∧ w = w' := by
  subst hm; exact iNormalAngle a w h1 h2
theorem sNormM (a m : Int) (w : World) (h1 : -9223372036854775808 ≤ a) (h2 : a ≤ 9223372036854775807) (hm : a % 360000 = m) :
    Calls Tryz.prog 90 #[.int .i64 a] w fun e w' => e = .returned (.int .i64 m) ∧ w = w' := by
  subst hm; exact sNormal a w h1 h2
theorem iSineTop (a : Int) (w : World) (h1 : -9223372036854775808 ≤ a) (h2 : a ≤ 9223372036854775807) (HM : Hid (a % 360000 = 90000)) (c90 : w.cell? ⟨0, 90, none⟩ = some (.int .i64 1000000)) :
    Calls Tryz.prog 36 #[.int .i64 a] w fun e w' => e = .returned (.int .i64 1000000) ∧ ∃ n, w' = w.drewN n := by
  go_enter Tryz.func36, Tryz.ntmps36
  go_wp2_with (go_at_call 25; (with_reducible refine (iNormM _ _ _ (by omega) (by omega) HM.out).mono ?_); rintro e w' ⟨rfl, rfl⟩)
  go_ret
  exact ⟨rfl, 0, rfl⟩
theorem iSineMid (a M P K t0 t1 v : Int) (w : World) (h1 : -9223372036854775808 ≤ a) (h2 : a ≤ 9223372036854775807) (HM : Hid (a % 360000 = M)) (m1 : 0 ≤ M) (m2 : M < 180000)
    (hP : (M ≤ 90000 ∧ P = M) ∨ (90000 < M ∧ 180000 - M = P)) (hk1 : 0 ≤ K) (hk2 : K < 90) (hkI : P / 1000 = K) (tb1 : 0 ≤ t0) (tb2 : t0 ≤ 1000000) (tb3 : 0 ≤ t1) (tb4 : t1 ≤ 1000000)
    (ck : w.cell? ⟨0, K.toNat, none⟩ = some (.int .i64 t0)) (ck1 : w.cell? ⟨0, (K + 1).toNat, none⟩ = some (.int .i64 t1)) (V : Hid (blendF (K * 1000) t0 ((K + 1) * 1000) t1 P = v)) :
    Calls Tryz.prog 36 #[.int .i64 a] w fun e w' => e = .returned (.int .i64 v) ∧ ∃ n, w' = w.drewN n := by
  have hk8 : K < 91 := by omega
  have hk7 : K + 1 < 91 := by omega
  have hk6 : 0 ≤ K + 1 := by omega
  have hne : (K == 90) = false := by simp; omega
  have w1 : IntKind.i64.wrap (K * 1000) = K * 1000 := IntWalk.i64_in _ (by omega)
  have w2 : IntKind.i64.wrap (K + 1) = K + 1 := IntWalk.i64_in _ (by omega)
  have w3 : IntKind.i64.wrap ((K + 1) * 1000) = (K + 1) * 1000 := IntWalk.i64_in _ (by omega)
  rcases hP with ⟨hle, rfl⟩ | ⟨hle, e⟩
  · go_enter Tryz.func36, Tryz.ntmps36
    go_wp2_with (go_at_call 25; (with_reducible refine (iNormM _ _ _ (by omega) (by omega) HM.out).mono ?_); rintro e w' ⟨rfl, rfl⟩)
    go_quiet ((first | (go_at_call 47; exact Calls.quiet_of (iBlend _ _ _ _ _ _ (by omega) (by omega) (by omega) (by omega) (by omega) (by omega) (by omega) (by omega)))))
    go_wp2
    go_ret
    exact ⟨ret_i V.out, _, rfl⟩
  · go_enter Tryz.func36, Tryz.ntmps36
    go_wp2_with (go_at_call 25; (with_reducible refine (iNormM _ _ _ (by omega) (by omega) HM.out).mono ?_); rintro e w' ⟨rfl, rfl⟩)
    go_quiet ((first | (go_at_call 47; exact Calls.quiet_of (iBlend _ _ _ _ _ _ (by omega) (by omega) (by omega) (by omega) (by omega) (by omega) (by omega) (by omega)))))
    go_wp2
    go_ret
    exact ⟨ret_i V.out, _, rfl⟩
theorem iSineA (a : Int) (m : Nat) (w : World) (h1 : -9223372036854775808 ≤ a) (h2 : a ≤ 9223372036854775807) (hm : a % 360000 = m) (h : m < 180000) (hS : SinesIn w) :
    Calls Tryz.prog 36 #[.int .i64 a] w fun e w' => e = .returned (.int .i64 (sinI a)) ∧ ∃ n, w' = w.drewN n := by
  rw [sinI_lo hm h]
  unfold sinH
  obtain ⟨p, hp⟩ : ∃ p : Nat, p = if m ≤ 90000 then m else 180000 - m := ⟨_, rfl⟩
  have hpb : p ≤ 90000 := by rw [hp]; split <;> omega
  have hval : (if m ≤ 90000 then sinQ m else sinQ (180000 - m)) = sinQ p := by rw [hp]; split <;> rfl
  rw [hval]; clear hval
  obtain ⟨k, hk⟩ : ∃ k : Nat, p / 1000 = k := ⟨_, rfl⟩
  by_cases h9 : k = 90
  · have ep : p = 90000 := by omega
    have ev : sinQ p = 1000000 := by rw [ep]; decide
    have em : m = 90000 := by rw [ep] at hp; split at hp <;> omega
    rw [ev]
    exact iSineTop a w h1 h2 (by rw [hm, em]; rfl) (by rw [hS 90 (by omega)]; rfl)
  · have hkb : k < 90 := by omega
    obtain ⟨tb1, tb2⟩ := tab_bd k (by omega)
    obtain ⟨tb3, tb4⟩ := tab_bd (k + 1) (by omega)
    have e1 : (k : Int).toNat = k := by omega
    have e2 : ((k : Int) + 1).toNat = k + 1 := by omega
    exact iSineMid a m p k (tab k) (tab (k + 1)) (sinQ p) w h1 h2 hm (by omega) (by omega) (by split at hp <;> omega) (by omega) (by omega) (by omega) tb1 tb2 tb3 tb4
      (by rw [e1]; exact hS k (by omega)) (by rw [e2]; exact hS (k + 1) (by omega)) (sinQ_blend hk hkb)
theorem iSineNeg (a M Q v : Int) (w : World) (h1 : -9223372036854775808 ≤ a) (h2 : a ≤ 9223372036854775807) (HM : Hid (a % 360000 = M)) (m1 : 180000 ≤ M) (m2 : M < 360000) (e : M - 180000 = Q) (b1 : -1000000 ≤ v) (b2 : v ≤ 1000000)
    (hC : Calls Tryz.prog 36 #[.int .i64 Q] w fun e w' => e = .returned (.int .i64 v) ∧ ∃ n, w' = w.drewN n) :
    Calls Tryz.prog 36 #[.int .i64 a] w fun e w' => e = .returned (.int .i64 (-v)) ∧ ∃ n, w' = w.drewN n := by
  go_enter Tryz.func36, Tryz.ntmps36
  go_wp2_with (first | (go_at_call 25; (with_reducible refine (iNormM _ _ _ (by omega) (by omega) HM.out).mono ?_); rintro e w' ⟨rfl, rfl⟩) | (go_at_call 36; (with_reducible refine (hC).mono ?_); rintro e w' ⟨rfl, n, rfl⟩))
  go_ret
  exact ⟨rfl, _, rfl⟩
theorem iSineOf (a : Int) (w : World) (h1 : -9223372036854775808 ≤ a) (h2 : a ≤ 9223372036854775807) (hS : SinesIn w) :
    Calls Tryz.prog 36 #[.int .i64 a] w fun e w' => e = .returned (.int .i64 (sinI a)) ∧ ∃ n, w' = w.drewN n := by
  obtain ⟨m, hm⟩ : ∃ m : Nat, a % 360000 = m := ⟨(a % 360000).toNat, by omega⟩
  by_cases h : m < 180000
  · exact iSineA a m w h1 h2 hm h hS
  · rw [sinI_hi hm h]
    obtain ⟨q, hq⟩ : ∃ q : Nat, q = m - 180000 := ⟨_, rfl⟩
    have hqI : sinI (q : Int) = sinH q := sinI_lo (by omega) (by omega)
    have hb := sinI_bd (q : Int)
    rw [← hq, ← hqI]
    exact iSineNeg a m q _ w h1 h2 hm (by omega) (by omega) (by omega) hb.1 hb.2 (iSineA q q w (by omega) (by omega) (by omega) (by omega) hS)
theorem iCosineOf (a : Int) (w : World) (h1 : -9223372036854775808 ≤ a) (h2 : a ≤ 9223372036854775807) (hS : SinesIn w) :
    Calls Tryz.prog 34 #[.int .i64 a] w fun e w' => e = .returned (.int .i64 (cosI a)) ∧ ∃ n, w' = w.drewN n := by
  unfold cosI
  go_enter Tryz.func34, Tryz.ntmps34
  go_wp2_with (first | (go_at_call 25; (with_reducible refine (iNormalAngle _ _ (by omega) (by omega)).mono ?_); rintro e w' ⟨rfl, rfl⟩) | (go_at_call 36; (with_reducible refine (iSineOf _ _ (by omega) (by omega) (by first | assumption | exact SinesIn.drewN (by assumption) _)).mono ?_); rintro e w' ⟨rfl, n, rfl⟩))
  go_ret
  exact ⟨rfl, _, rfl⟩
/-- A slice of 91 numbers holds the sines of whole degrees. -/
def TabAt (w : World) (g : Nat) : Prop := ∀ i, i < 91 → w.cell? ⟨g, i, none⟩ = some (.int .i64 (tab i))
set_option maxRecDepth 100000 in
set_option maxHeartbeats 20000000 in
theorem sTable (w : World) :
    Calls Tryz.prog 91 #[] w fun e w' => e = .returned (.slice (some ⟨w.heap.size, 0, none⟩) 91 91) ∧ TabAt w' w.heap.size ∧ Below w.heap.size w w' ∧ w.heap.size < w'.heap.size := by
  have key : TabAt (w.alloc (.cells (sinT.map fun z => Value.int .i64 z).toArray 2)) w.heap.size := by
    intro i hi
    rw [World.cell?_alloc_new]
    have hl : i < sinT.length := hi
    simp [tab, List.getD, hl]
  have K := Lib.hid key
  clear key
  go_enter Tryz.func91, Tryz.ntmps91
  go_wp2
  go_ret
  exact ⟨rfl, K.out, by (repeat (first | exact Below.refl _ _ | assumption | (refine Below.drewN ?_ _) | (refine Below.drew ?_) | (refine Below.alloc ?_ (by first | (simp; done) | (simp; omega) | omega) _) | (refine Below.setCell ?_ (by first | (simp; done) | (simp; omega) | omega) _) | (refine Below.trans ?_ (Below.mono (by assumption) (by first | (simp; done) | (simp; omega) | omega))))), by simp⟩
theorem sSineWhole (a M Q P K t0 r : Int) (w : World) (h1 : -9223372036854775808 ≤ a) (h2 : a ≤ 9223372036854775807) (HM : Hid (a % 360000 = M)) (m1 : 0 ≤ M) (m2 : M < 360000)
    (hQ : (M < 180000 ∧ Q = M ∧ r = t0) ∨ (180000 ≤ M ∧ M - 180000 = Q ∧ r = -(t0))) (hP : (Q ≤ 90000 ∧ P = Q) ∨ (90000 < Q ∧ 180000 - Q = P)) (hk1 : 0 ≤ K) (hk2 : K < 91) (hkI : P / 1000 = K) (hdI : P % 1000 = 0) (tb1 : 0 ≤ t0) (tb2 : t0 ≤ 1000000)
    (T : Hid (∀ w1, TabAt w1 w.heap.size → w1.cell? ⟨w.heap.size, K.toNat, none⟩ = some (.int .i64 t0))) :
    Calls Tryz.prog 73 #[.int .i64 a] w fun e w' => e = .returned (.int .i64 r) ∧ Below w.heap.size w w' := by
  rcases hQ with ⟨q1, rfl, rfl⟩ | ⟨q1, eq, rfl⟩ <;> rcases hP with ⟨p1, rfl⟩ | ⟨p1, ep⟩
  · go_enter Tryz.func73, Tryz.ntmps73
    go_wp2_with (first | (go_at_call 90; (with_reducible refine (sNormM _ _ _ (by omega) (by omega) HM.out).mono ?_); rintro e w' ⟨rfl, rfl⟩) | (go_at_call 91; (with_reducible refine (sTable _).mono ?_); rintro e w' ⟨rfl, hT, hb, hlt⟩; have hT0 := T.out _ hT; clear hT))
    go_ret
    exact ⟨rfl, by (repeat (first | exact Below.refl _ _ | assumption | (refine Below.drewN ?_ _) | (refine Below.drew ?_) | (refine Below.alloc ?_ (by first | (simp; done) | (simp; omega) | omega) _) | (refine Below.setCell ?_ (by first | (simp; done) | (simp; omega) | omega) _) | (refine Below.trans ?_ (Below.mono (by assumption) (by first | (simp; done) | (simp; omega) | omega)))))⟩
  · go_enter Tryz.func73, Tryz.ntmps73
    go_wp2_with (first | (go_at_call 90; (with_reducible refine (sNormM _ _ _ (by omega) (by omega) HM.out).mono ?_); rintro e w' ⟨rfl, rfl⟩) | (go_at_call 91; (with_reducible refine (sTable _).mono ?_); rintro e w' ⟨rfl, hT, hb, hlt⟩; have hT0 := T.out _ hT; clear hT))
    go_ret
    exact ⟨rfl, by (repeat (first | exact Below.refl _ _ | assumption | (refine Below.drewN ?_ _) | (refine Below.drew ?_) | (refine Below.alloc ?_ (by first | (simp; done) | (simp; omega) | omega) _) | (refine Below.setCell ?_ (by first | (simp; done) | (simp; omega) | omega) _) | (refine Below.trans ?_ (Below.mono (by assumption) (by first | (simp; done) | (simp; omega) | omega)))))⟩
  · go_enter Tryz.func73, Tryz.ntmps73
    go_wp2_with (first | (go_at_call 90; (with_reducible refine (sNormM _ _ _ (by omega) (by omega) HM.out).mono ?_); rintro e w' ⟨rfl, rfl⟩) | (go_at_call 91; (with_reducible refine (sTable _).mono ?_); rintro e w' ⟨rfl, hT, hb, hlt⟩; have hT0 := T.out _ hT; clear hT))
    go_ret
    exact ⟨ret_i (by omega), by (repeat (first | exact Below.refl _ _ | assumption | (refine Below.drewN ?_ _) | (refine Below.drew ?_) | (refine Below.alloc ?_ (by first | (simp; done) | (simp; omega) | omega) _) | (refine Below.setCell ?_ (by first | (simp; done) | (simp; omega) | omega) _) | (refine Below.trans ?_ (Below.mono (by assumption) (by first | (simp; done) | (simp; omega) | omega)))))⟩
  · go_enter Tryz.func73, Tryz.ntmps73
    go_wp2_with (first | (go_at_call 90; (with_reducible refine (sNormM _ _ _ (by omega) (by omega) HM.out).mono ?_); rintro e w' ⟨rfl, rfl⟩) | (go_at_call 91; (with_reducible refine (sTable _).mono ?_); rintro e w' ⟨rfl, hT, hb, hlt⟩; have hT0 := T.out _ hT; clear hT))
    go_ret
    exact ⟨ret_i (by omega), by (repeat (first | exact Below.refl _ _ | assumption | (refine Below.drewN ?_ _) | (refine Below.drew ?_) | (refine Below.alloc ?_ (by first | (simp; done) | (simp; omega) | omega) _) | (refine Below.setCell ?_ (by first | (simp; done) | (simp; omega) | omega) _) | (refine Below.trans ?_ (Below.mono (by assumption) (by first | (simp; done) | (simp; omega) | omega)))))⟩
theorem sSineMid (a M Q P K D t0 t1 r : Int) (w : World) (h1 : -9223372036854775808 ≤ a) (h2 : a ≤ 9223372036854775807) (HM : Hid (a % 360000 = M)) (m1 : 0 ≤ M) (m2 : M < 360000)
    (hQ : (M < 180000 ∧ Q = M ∧ r = t0 + divR ((t1 - t0) * D) 1000) ∨ (180000 ≤ M ∧ M - 180000 = Q ∧ r = -(t0 + divR ((t1 - t0) * D) 1000))) (hP : (Q ≤ 90000 ∧ P = Q) ∨ (90000 < Q ∧ 180000 - Q = P)) (hk1 : 0 ≤ K) (hk2 : K < 90) (hkI : P / 1000 = K) (hdI : P % 1000 = D) (tb1 : 0 ≤ t0) (tb2 : t0 ≤ 1000000) (tb3 : 0 ≤ t1) (tb4 : t1 ≤ 1000000) (ts1 : t0 ≤ t1) (ts2 : t1 ≤ t0 + 17452) (d1 : 0 < D) (d2 : D < 1000)
    (T : Hid (∀ w1, TabAt w1 w.heap.size → w1.cell? ⟨w.heap.size, K.toNat, none⟩ = some (.int .i64 t0) ∧ w1.cell? ⟨w.heap.size, (K + 1).toNat, none⟩ = some (.int .i64 t1))) :
    Calls Tryz.prog 73 #[.int .i64 a] w fun e w' => e = .returned (.int .i64 r) ∧ Below w.heap.size w w' := by
  have hk8 : K < 91 := by omega
  have hk7 : K + 1 < 91 := by omega
  have hk6 : 0 ≤ K + 1 := by omega
  have hm1 := mul_bd (a := t1 - t0) (b := D) (c := 17452) (d := 1000) (by omega) (by omega) (by omega) (by omega) (by omega)
  obtain ⟨hm1, hm2⟩ := hm1
  obtain ⟨hv1, hv2⟩ := divR_bd (a := (t1 - t0) * D) (b := 1000) (c := 17452000) (by omega) (by omega) (by omega)
  have w1 : IntKind.i64.wrap (K + 1) = K + 1 := IntWalk.i64_in _ (by omega)
  have w2 : IntKind.i64.wrap (t1 - t0) = t1 - t0 := IntWalk.i64_in _ (by omega)
  have w3 : IntKind.i64.wrap ((t1 - t0) * D) = (t1 - t0) * D := IntWalk.i64_in _ (by omega)
  have w4 : IntKind.i64.wrap (t0 + divR ((t1 - t0) * D) 1000) = t0 + divR ((t1 - t0) * D) 1000 := IntWalk.i64_in _ (by omega)
  rcases hQ with ⟨q1, rfl, rfl⟩ | ⟨q1, eq, rfl⟩ <;> rcases hP with ⟨p1, rfl⟩ | ⟨p1, ep⟩
  · go_enter Tryz.func73, Tryz.ntmps73
    go_wp2_with (first | (go_at_call 90; (with_reducible refine (sNormM _ _ _ (by omega) (by omega) HM.out).mono ?_); rintro e w' ⟨rfl, rfl⟩) | (go_at_call 91; (with_reducible refine (sTable _).mono ?_); rintro e w' ⟨rfl, hT, hb, hlt⟩; obtain ⟨hT0, hT1⟩ := T.out _ hT; clear hT))
    go_quiet ((first | (go_at_call 72; exact quiet_same (sDiv _ _ _ (by omega) (by omega) (by omega) (by omega) (by omega)))))
    go_wp2
    go_ret
    exact ⟨rfl, by (repeat (first | exact Below.refl _ _ | assumption | (refine Below.drewN ?_ _) | (refine Below.drew ?_) | (refine Below.alloc ?_ (by first | (simp; done) | (simp; omega) | omega) _) | (refine Below.setCell ?_ (by first | (simp; done) | (simp; omega) | omega) _) | (refine Below.trans ?_ (Below.mono (by assumption) (by first | (simp; done) | (simp; omega) | omega)))))⟩
  · go_enter Tryz.func73, Tryz.ntmps73
    go_wp2_with (first | (go_at_call 90; (with_reducible refine (sNormM _ _ _ (by omega) (by omega) HM.out).mono ?_); rintro e w' ⟨rfl, rfl⟩) | (go_at_call 91; (with_reducible refine (sTable _).mono ?_); rintro e w' ⟨rfl, hT, hb, hlt⟩; obtain ⟨hT0, hT1⟩ := T.out _ hT; clear hT))
    go_quiet ((first | (go_at_call 72; exact quiet_same (sDiv _ _ _ (by omega) (by omega) (by omega) (by omega) (by omega)))))
    go_wp2
    go_ret
    exact ⟨rfl, by (repeat (first | exact Below.refl _ _ | assumption | (refine Below.drewN ?_ _) | (refine Below.drew ?_) | (refine Below.alloc ?_ (by first | (simp; done) | (simp; omega) | omega) _) | (refine Below.setCell ?_ (by first | (simp; done) | (simp; omega) | omega) _) | (refine Below.trans ?_ (Below.mono (by assumption) (by first | (simp; done) | (simp; omega) | omega)))))⟩
  · go_enter Tryz.func73, Tryz.ntmps73
    go_wp2_with (first | (go_at_call 90; (with_reducible refine (sNormM _ _ _ (by omega) (by omega) HM.out).mono ?_); rintro e w' ⟨rfl, rfl⟩) | (go_at_call 91; (with_reducible refine (sTable _).mono ?_); rintro e w' ⟨rfl, hT, hb, hlt⟩; obtain ⟨hT0, hT1⟩ := T.out _ hT; clear hT))
    go_quiet ((first | (go_at_call 72; exact quiet_same (sDiv _ _ _ (by omega) (by omega) (by omega) (by omega) (by omega)))))
    go_wp2
    go_ret
    exact ⟨ret_i (by omega), by (repeat (first | exact Below.refl _ _ | assumption | (refine Below.drewN ?_ _) | (refine Below.drew ?_) | (refine Below.alloc ?_ (by first | (simp; done) | (simp; omega) | omega) _) | (refine Below.setCell ?_ (by first | (simp; done) | (simp; omega) | omega) _) | (refine Below.trans ?_ (Below.mono (by assumption) (by first | (simp; done) | (simp; omega) | omega)))))⟩
  · go_enter Tryz.func73, Tryz.ntmps73
    go_wp2_with (first | (go_at_call 90; (with_reducible refine (sNormM _ _ _ (by omega) (by omega) HM.out).mono ?_); rintro e w' ⟨rfl, rfl⟩) | (go_at_call 91; (with_reducible refine (sTable _).mono ?_); rintro e w' ⟨rfl, hT, hb, hlt⟩; obtain ⟨hT0, hT1⟩ := T.out _ hT; clear hT))
    go_quiet ((first | (go_at_call 72; exact quiet_same (sDiv _ _ _ (by omega) (by omega) (by omega) (by omega) (by omega)))))
    go_wp2
    go_ret
    exact ⟨ret_i (by omega), by (repeat (first | exact Below.refl _ _ | assumption | (refine Below.drewN ?_ _) | (refine Below.drew ?_) | (refine Below.alloc ?_ (by first | (simp; done) | (simp; omega) | omega) _) | (refine Below.setCell ?_ (by first | (simp; done) | (simp; omega) | omega) _) | (refine Below.trans ?_ (Below.mono (by assumption) (by first | (simp; done) | (simp; omega) | omega)))))⟩
theorem sSine (a : Int) (w : World) (h1 : -9223372036854775808 ≤ a) (h2 : a ≤ 9223372036854775807) :
    Calls Tryz.prog 73 #[.int .i64 a] w fun e w' => e = .returned (.int .i64 (sinI a)) ∧ Below w.heap.size w w' := by
  obtain ⟨m, hm⟩ : ∃ m : Nat, a % 360000 = m := ⟨(a % 360000).toNat, by omega⟩
  have hm3 : m < 360000 := by omega
  obtain ⟨q, hq⟩ : ∃ q : Nat, q = if m < 180000 then m else m - 180000 := ⟨_, rfl⟩
  have hqb : q < 180000 := by rw [hq]; split <;> omega
  obtain ⟨p, hp⟩ : ∃ p : Nat, p = if q ≤ 90000 then q else 180000 - q := ⟨_, rfl⟩
  have hpb : p ≤ 90000 := by rw [hp]; split <;> omega
  have hval : (m < 180000 → sinI a = sinQ p) ∧ (¬ m < 180000 → sinI a = -sinQ p) := by
    constructor <;> intro h
    · rw [sinI_lo hm h]; rw [if_pos h] at hq; unfold sinH; rw [hp, hq]; split <;> rfl
    · rw [sinI_hi hm h]; rw [if_neg h] at hq; unfold sinH; rw [hp, hq]; split <;> rfl
  obtain ⟨k, hk⟩ : ∃ k : Nat, p / 1000 = k := ⟨_, rfl⟩
  obtain ⟨d, hd⟩ : ∃ d : Nat, p % 1000 = d := ⟨_, rfl⟩
  have hkI : (p : Int) / 1000 = k := by omega
  have hdI : (p : Int) % 1000 = d := by omega
  have hkb : k ≤ 90 := by omega
  obtain ⟨tb1, tb2⟩ := tab_bd k (by omega)
  have hd1 : d < 1000 := by omega
  have e1 : (k : Int).toNat = k := by omega
  have e2 : ((k : Int) + 1).toNat = k + 1 := by omega
  have hP : ((q : Int) ≤ 90000 ∧ (p : Int) = q) ∨ (90000 < (q : Int) ∧ 180000 - (q : Int) = p) := by split at hp <;> omega
  by_cases hd0 : d = 0
  · have hv : sinQ p = tab k := sinQ_whole hk (by omega)
    rw [hv] at hval
    refine sSineWhole a m q p k (tab k) (sinI a) w h1 h2 hm (by omega) (by omega) ?_ hP (by omega) (by omega) hkI (by omega) tb1 tb2 (Lib.hid fun w1 h => by rw [e1]; exact h k (by omega))
    by_cases h : m < 180000
    · rw [if_pos h] at hq; exact .inl ⟨by omega, by omega, hval.1 h⟩
    · rw [if_neg h] at hq; exact .inr ⟨by omega, by omega, hval.2 h⟩
  · have hk9 : k < 90 := by omega
    have hv : sinQ p = tab k + divR ((tab (k + 1) - tab k) * d) 1000 := sinQ_div hk hd hk9
    rw [hv] at hval
    obtain ⟨tb3, tb4⟩ := tab_bd (k + 1) (by omega)
    have ts1 := tab_step k hk9
    have ts2 := tab_step2 k hk9
    refine sSineMid a m q p k d (tab k) (tab (k + 1)) (sinI a) w h1 h2 hm (by omega) (by omega) ?_ hP (by omega) (by omega) hkI hdI tb1 tb2 tb3 tb4 ts1 ts2 (by omega) (by omega)
      (Lib.hid fun w1 h => ⟨by rw [e1]; exact h k (by omega), by rw [e2]; exact h (k + 1) (by omega)⟩)
    by_cases h : m < 180000
    · rw [if_pos h] at hq; exact .inl ⟨by omega, by omega, hval.1 h⟩
    · rw [if_neg h] at hq; exact .inr ⟨by omega, by omega, hval.2 h⟩
theorem sCosine (a : Int) (w : World) (h1 : -9223372036854775808 ≤ a) (h2 : a ≤ 9223372036854775807) :
    Calls Tryz.prog 71 #[.int .i64 a] w fun e w' => e = .returned (.int .i64 (cosI a)) ∧ Below w.heap.size w w' := by
  unfold cosI
  go_enter Tryz.func71, Tryz.ntmps71
  go_wp2_with (first | (go_at_call 90; (with_reducible refine (sNormal _ _ (by omega) (by omega)).mono ?_); rintro e w' ⟨rfl, rfl⟩) | (go_at_call 73; (with_reducible refine (sSine _ _ (by omega) (by omega)).mono ?_); rintro e w' ⟨rfl, hb⟩; have hs := hb.size; (try simp at hs); (try have hz : w.heap.size < w'.heap.size := by omega); (try have hy : w.heap.size < w'.heap.size + 1 := by omega); (try have hyy : w.heap.size < w'.heap.size + 1 + 1 := by omega); (try have hz1 : w.heap.size + 1 < w'.heap.size := by omega); (try have hn : ¬ w'.heap.size = w.heap.size := by omega); (try have hn1 : ¬ w'.heap.size = w.heap.size + 1 := by omega); (try have hz2 : w.heap.size + 1 + 1 < w'.heap.size := by omega); (try have hq := Nat.lt_of_lt_of_le (by assumption) hs); (try have hq := Nat.lt_of_succ_le hs); obtain ⟨hc, hf⟩ := bcell hb; (try simp only [World.size_drew, World.cell?_drew, World.frozen?_drew, World.heap_drewN, World.cell?_drewN, World.frozen?_drewN] at hc hf)))
  go_ret
  exact ⟨rfl, by (repeat (first | exact Below.refl _ _ | assumption | (refine Below.drewN ?_ _) | (refine Below.drew ?_) | (refine Below.alloc ?_ (by first | (simp; done) | (simp; omega) | omega) _) | (refine Below.setCell ?_ (by first | (simp; done) | (simp; omega) | omega) _) | (refine Below.trans ?_ (Below.mono (by assumption) (by first | (simp; done) | (simp; omega) | omega)))))⟩
end Go.Proofs.YtmkmhljiajgibaaGreatDoor
