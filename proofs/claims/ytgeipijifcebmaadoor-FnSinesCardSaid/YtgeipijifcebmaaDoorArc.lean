/-
  Contracts of the arcs.
-/
import Derived.Test.YtgeipijifcebmaaDoorSin
import Derived.Test.YtgeipijifcebmaaDoorMarc
namespace Go.Proofs.YtgeipijifcebmaaDoor
set_option linter.unusedVariables false
set_option linter.unusedSimpArgs false
open Go.RowKit

theorem iFloor2 (a : Int) (w : World) (h1 : -4611686018427387904 ≤ a) (h2 : a ≤ 4611686018427387903) :
    Calls Tryd.prog 69 #[.int .i64 a, .int .i64 2] w fun e w' => e = .returned (.int .i64 (a / 2)) ∧ w = w' := by
  by_cases h : 0 ≤ a
  · go_enter Tryd.func69, Tryd.ntmps69
    go_wp2
    go_ret
    exact ⟨rfl, rfl⟩
  · have e1 := tdiv_neg 2 (show a < 0 by omega)
    have e2 := tmod_neg 2 (show a < 0 by omega)
    by_cases g : (-a) % 2 = 0
    · have e3 : -(-a / 2) = a / 2 := by omega
      have e4 : a.tdiv 2 = a / 2 := e1.trans e3
      have e5 : a.tmod 2 = 0 := by omega
      clear e1 e2 e3
      go_enter Tryd.func69, Tryd.ntmps69
      go_wp2
      go_ret
      exact ⟨rfl, rfl⟩
    · have e4 : a.tdiv 2 = a / 2 + 1 := by omega
      have e5 : a.tmod 2 = -1 := by omega
      clear e1 e2
      go_enter Tryd.func69, Tryd.ntmps69
      go_wp2
      go_ret
      exact ⟨ret_i (by omega), rfl⟩
theorem iArcSine (v : Int) (w : World) (hS : SinesIn w) :
    Calls Tryd.prog 28 #[.int .i64 v] w fun e w' => e = .returned (.tuple #[.int .i64 (asnA v), .int .i64 (unitC v)]) ∧ ∃ n, w' = w.drewN n := by
  unfold asnA unitC
  cases h : inB v (-1000000) 1000000
  · go_enter Tryd.func28, Tryd.ntmps28
    go_wp2_with (go_at_call 60; (with_reducible refine (iWithin _ _ _ _).mono ?_); rintro e w' ⟨rfl, rfl⟩)
    go_ret2
    exact ⟨rfl, 0, rfl⟩
  · have b := inB_t h
    obtain ⟨R, hR⟩ : ∃ R, R = bs (asnP v) (-90000) 90000 := ⟨_, rfl⟩
    have HR := Lib.hid hR
    simp only [if_true]
    rw [← hR]
    clear hR
    go_enter Tryd.func28, Tryd.ntmps28
    go_wp2_with (go_at_call 60; (with_reducible refine (iWithin _ _ _ _).mono ?_); rintro e w' ⟨rfl, rfl⟩)
    go_loopw [4, 5] (fun lo hi wr => ∃ (p q : Int) (n : Nat), -90000 ≤ p ∧ p ≤ q ∧ q ≤ 90000 ∧ lo = .int .i64 p ∧ hi = .int .i64 q ∧ bs (asnP v) p q = R ∧ wr = w.drewN n) (fun lo hi _ => (intOf hi - intOf lo).toNat)
    case atStart => exact ⟨_, _, 0, by omega, by omega, by omega, rfl, rfl, HR.out.symm, rfl⟩
    case round =>
      obtain ⟨p, q, n, h1, h2, h3, rfl, rfl, h4, rfl⟩ := hrel
      have H4 := Lib.hid h4
      clear h4
      by_cases hlt : p < q
      · have hb := sinI_bd ((p + q) / 2)
        by_cases hg : v ≤ sinI ((p + q) / 2)
        · have H5 : Hid (bs (asnP v) p ((p + q) / 2) = R) := by rw [← H4.out]; exact (bs_yes hlt (decide_eq_true hg)).symm
          go_wp2_with (first | (go_at_call 69; (with_reducible refine (iFloor2 _ _ (by omega) (by omega)).mono ?_); rintro e w' ⟨rfl, rfl⟩) | (go_at_call 16; (with_reducible refine (iSineOf _ _ (by omega) (by omega) (by first | assumption | exact SinesIn.drewN (by assumption) _)).mono ?_); rintro e w' ⟨rfl, n, rfl⟩))
          go_roundw
          case rel => exact ⟨p, (p + q) / 2, _, by omega, by omega, by omega, rfl, rfl, H5.out, rfl⟩
          case measure => simp [intOf]; omega
        · have H5 : Hid (bs (asnP v) ((p + q) / 2 + 1) q = R) := by rw [← H4.out]; exact (bs_no hlt (by unfold asnP; simpa using hg)).symm
          go_wp2_with (first | (go_at_call 69; (with_reducible refine (iFloor2 _ _ (by omega) (by omega)).mono ?_); rintro e w' ⟨rfl, rfl⟩) | (go_at_call 16; (with_reducible refine (iSineOf _ _ (by omega) (by omega) (by first | assumption | exact SinesIn.drewN (by assumption) _)).mono ?_); rintro e w' ⟨rfl, n, rfl⟩))
          go_roundw
          case rel => exact ⟨(p + q) / 2 + 1, q, _, by omega, by omega, by omega, rfl, rfl, H5.out, rfl⟩
          case measure => simp [intOf]; omega
      · have H5 : Hid (p = R) := by rw [← H4.out]; exact (bs_end hlt).symm
        go_wp2
        go_ret2
        exact ⟨ret_ii H5.out rfl, _, rfl⟩
theorem sArcSine (v : Int) (w : World) :
    Calls Tryd.prog 27 #[.int .i64 v] w fun e w' => e = .returned (.tuple #[.int .i64 (asnA v), .int .i64 (unitC v)]) ∧ Below w.heap.size w w' := by
  unfold asnA unitC
  cases h : inB v (-1000000) 1000000
  · go_enter Tryd.func27, Tryd.ntmps27
    go_wp2_with (go_at_call 59; (with_reducible refine (sIn _ _ _ _).mono ?_); rintro e w' ⟨rfl, rfl⟩)
    go_ret2
    exact ⟨rfl, by (repeat (first | exact Below.refl _ _ | assumption | (refine Below.drewN ?_ _) | (refine Below.drew ?_) | (refine Below.alloc ?_ (by first | (simp; done) | (simp; omega) | omega) _) | (refine Below.setCell ?_ (by first | (simp; done) | (simp; omega) | omega) _) | (refine Below.trans ?_ (Below.mono (by assumption) (by first | (simp; done) | (simp; omega) | omega)))))⟩
  · have b := inB_t h
    obtain ⟨R, hR⟩ : ∃ R, R = bs (asnP v) (-90000) 90000 := ⟨_, rfl⟩
    have HR := Lib.hid hR
    simp only [if_true]
    rw [← hR]
    clear hR
    go_enter Tryd.func27, Tryd.ntmps27
    go_wp2_with (go_at_call 59; (with_reducible refine (sIn _ _ _ _).mono ?_); rintro e w' ⟨rfl, rfl⟩)
    go_loopw [4, 5] (fun lo hi wr => ∃ (p q : Int), -90000 ≤ p ∧ p ≤ q ∧ q ≤ 90000 ∧ lo = .int .i64 p ∧ hi = .int .i64 q ∧ Hid (bs (asnP v) p q = R) ∧ Below w.heap.size w wr) (fun lo hi _ => (intOf hi - intOf lo).toNat)
    case atStart => exact ⟨_, _, by omega, by omega, by omega, rfl, rfl, HR.out.symm, by (repeat (first | exact Below.refl _ _ | assumption | (refine Below.drewN ?_ _) | (refine Below.drew ?_) | (refine Below.alloc ?_ (by first | (simp; done) | (simp; omega) | omega) _) | (refine Below.setCell ?_ (by first | (simp; done) | (simp; omega) | omega) _) | (refine Below.trans ?_ (Below.mono (by assumption) (by first | (simp; done) | (simp; omega) | omega)))))⟩
    case round =>
      obtain ⟨p, q, h1, h2, h3, rfl, rfl, H4, hbr⟩ := hrel
      have hsr := hbr.size
      by_cases hlt : p < q
      · have hb := sinI_bd ((p + q) / 2)
        have em : max p ((p + q + 180000) / 2 - 90000) = (p + q) / 2 := by omega
        by_cases hg : v ≤ sinI ((p + q) / 2)
        · have H5 : Hid (bs (asnP v) p ((p + q) / 2) = R) := by rw [← H4.out]; exact (bs_yes hlt (decide_eq_true hg)).symm
          go_wp2_with (first | (go_at_call 68; (with_reducible refine (sMax _ _ _).mono ?_); rintro e w' ⟨rfl, rfl⟩) | (go_at_call 55; (with_reducible refine (sSine _ _ (by omega) (by omega)).mono ?_); rintro e w' ⟨rfl, hb⟩; have hs := hb.size; (try simp at hs); (try have hz : w.heap.size < w'.heap.size := by omega); (try have hy : w.heap.size < w'.heap.size + 1 := by omega); (try have hyy : w.heap.size < w'.heap.size + 1 + 1 := by omega); (try have hz1 : w.heap.size + 1 < w'.heap.size := by omega); (try have hn : ¬ w'.heap.size = w.heap.size := by omega); (try have hn1 : ¬ w'.heap.size = w.heap.size + 1 := by omega); (try have hz2 : w.heap.size + 1 + 1 < w'.heap.size := by omega); (try have hq := Nat.lt_of_lt_of_le (by assumption) hs); (try have hq := Nat.lt_of_succ_le hs); obtain ⟨hc, hf⟩ := bcell hb; (try simp only [World.size_drew, World.cell?_drew, World.frozen?_drew] at hc hf)))
          go_roundw
          case rel => exact ⟨p, (p + q) / 2, by omega, by omega, by omega, rfl, rfl, H5.out, by (repeat (first | exact Below.refl _ _ | assumption | (refine Below.drewN ?_ _) | (refine Below.drew ?_) | (refine Below.alloc ?_ (by first | (simp; done) | (simp; omega) | omega) _) | (refine Below.setCell ?_ (by first | (simp; done) | (simp; omega) | omega) _) | (refine Below.trans ?_ (Below.mono (by assumption) (by first | (simp; done) | (simp; omega) | omega)))))⟩
          case measure => simp [intOf]; omega
        · have H5 : Hid (bs (asnP v) ((p + q) / 2 + 1) q = R) := by rw [← H4.out]; exact (bs_no hlt (by unfold asnP; simpa using hg)).symm
          go_wp2_with (first | (go_at_call 68; (with_reducible refine (sMax _ _ _).mono ?_); rintro e w' ⟨rfl, rfl⟩) | (go_at_call 55; (with_reducible refine (sSine _ _ (by omega) (by omega)).mono ?_); rintro e w' ⟨rfl, hb⟩; have hs := hb.size; (try simp at hs); (try have hz : w.heap.size < w'.heap.size := by omega); (try have hy : w.heap.size < w'.heap.size + 1 := by omega); (try have hyy : w.heap.size < w'.heap.size + 1 + 1 := by omega); (try have hz1 : w.heap.size + 1 < w'.heap.size := by omega); (try have hn : ¬ w'.heap.size = w.heap.size := by omega); (try have hn1 : ¬ w'.heap.size = w.heap.size + 1 := by omega); (try have hz2 : w.heap.size + 1 + 1 < w'.heap.size := by omega); (try have hq := Nat.lt_of_lt_of_le (by assumption) hs); (try have hq := Nat.lt_of_succ_le hs); obtain ⟨hc, hf⟩ := bcell hb; (try simp only [World.size_drew, World.cell?_drew, World.frozen?_drew] at hc hf)))
          go_roundw
          case rel => exact ⟨(p + q) / 2 + 1, q, by omega, by omega, by omega, rfl, rfl, H5.out, by (repeat (first | exact Below.refl _ _ | assumption | (refine Below.drewN ?_ _) | (refine Below.drew ?_) | (refine Below.alloc ?_ (by first | (simp; done) | (simp; omega) | omega) _) | (refine Below.setCell ?_ (by first | (simp; done) | (simp; omega) | omega) _) | (refine Below.trans ?_ (Below.mono (by assumption) (by first | (simp; done) | (simp; omega) | omega)))))⟩
          case measure => simp [intOf]; omega
      · have H5 : Hid (p = R) := by rw [← H4.out]; exact (bs_end hlt).symm
        go_wp2
        go_ret2
        exact ⟨ret_ii H5.out rfl, by (repeat (first | exact Below.refl _ _ | assumption | (refine Below.drewN ?_ _) | (refine Below.drew ?_) | (refine Below.alloc ?_ (by first | (simp; done) | (simp; omega) | omega) _) | (refine Below.setCell ?_ (by first | (simp; done) | (simp; omega) | omega) _) | (refine Below.trans ?_ (Below.mono (by assumption) (by first | (simp; done) | (simp; omega) | omega)))))⟩
theorem iArcCosine (v : Int) (w : World) (hS : SinesIn w) :
    Calls Tryd.prog 20 #[.int .i64 v] w fun e w' => e = .returned (.tuple #[.int .i64 (acsA v), .int .i64 (unitC v)]) ∧ ∃ n, w' = w.drewN n := by
  unfold acsA unitC
  cases h : inB v (-1000000) 1000000
  · go_enter Tryd.func20, Tryd.ntmps20
    go_wp2_with (go_at_call 60; (with_reducible refine (iWithin _ _ _ _).mono ?_); rintro e w' ⟨rfl, rfl⟩)
    go_ret2
    exact ⟨rfl, 0, rfl⟩
  · have b := inB_t h
    obtain ⟨R, hR⟩ : ∃ R, R = bs (acsP v) 0 180000 := ⟨_, rfl⟩
    have HR := Lib.hid hR
    simp only [if_true]
    rw [← hR]
    clear hR
    go_enter Tryd.func20, Tryd.ntmps20
    go_wp2_with (go_at_call 60; (with_reducible refine (iWithin _ _ _ _).mono ?_); rintro e w' ⟨rfl, rfl⟩)
    go_loopw [4, 5] (fun lo hi wr => ∃ (p q : Int) (n : Nat), 0 ≤ p ∧ p ≤ q ∧ q ≤ 180000 ∧ lo = .int .i64 p ∧ hi = .int .i64 q ∧ bs (acsP v) p q = R ∧ wr = w.drewN n) (fun lo hi _ => (intOf hi - intOf lo).toNat)
    case atStart => exact ⟨_, _, 0, by omega, by omega, by omega, rfl, rfl, HR.out.symm, rfl⟩
    case round =>
      obtain ⟨p, q, n, h1, h2, h3, rfl, rfl, h4, rfl⟩ := hrel
      have H4 := Lib.hid h4
      clear h4
      by_cases hlt : p < q
      · have hb := cosI_bd ((p + q) / 2)
        by_cases hg : cosI ((p + q) / 2) ≤ v
        · have H5 : Hid (bs (acsP v) p ((p + q) / 2) = R) := by rw [← H4.out]; exact (bs_yes hlt (decide_eq_true hg)).symm
          go_wp2_with (go_at_call 18; (with_reducible refine (iCosineOf _ _ (by omega) (by omega) (by first | assumption | exact SinesIn.drewN (by assumption) _)).mono ?_); rintro e w' ⟨rfl, n, rfl⟩)
          go_roundw
          case rel => exact ⟨p, (p + q) / 2, _, by omega, by omega, by omega, rfl, rfl, H5.out, rfl⟩
          case measure => simp [intOf]; omega
        · have H5 : Hid (bs (acsP v) ((p + q) / 2 + 1) q = R) := by rw [← H4.out]; exact (bs_no hlt (by unfold acsP; simpa using hg)).symm
          go_wp2_with (go_at_call 18; (with_reducible refine (iCosineOf _ _ (by omega) (by omega) (by first | assumption | exact SinesIn.drewN (by assumption) _)).mono ?_); rintro e w' ⟨rfl, n, rfl⟩)
          go_roundw
          case rel => exact ⟨(p + q) / 2 + 1, q, _, by omega, by omega, by omega, rfl, rfl, H5.out, rfl⟩
          case measure => simp [intOf]; omega
      · have H5 : Hid (p = R) := by rw [← H4.out]; exact (bs_end hlt).symm
        go_wp2
        go_ret2
        exact ⟨ret_ii H5.out rfl, _, rfl⟩
theorem sArcCosine (v : Int) (w : World) :
    Calls Tryd.prog 19 #[.int .i64 v] w fun e w' => e = .returned (.tuple #[.int .i64 (acsA v), .int .i64 (unitC v)]) ∧ Below w.heap.size w w' := by
  unfold acsA unitC
  cases h : inB v (-1000000) 1000000
  · go_enter Tryd.func19, Tryd.ntmps19
    go_wp2_with (go_at_call 59; (with_reducible refine (sIn _ _ _ _).mono ?_); rintro e w' ⟨rfl, rfl⟩)
    go_ret2
    exact ⟨rfl, by (repeat (first | exact Below.refl _ _ | assumption | (refine Below.drewN ?_ _) | (refine Below.drew ?_) | (refine Below.alloc ?_ (by first | (simp; done) | (simp; omega) | omega) _) | (refine Below.setCell ?_ (by first | (simp; done) | (simp; omega) | omega) _) | (refine Below.trans ?_ (Below.mono (by assumption) (by first | (simp; done) | (simp; omega) | omega)))))⟩
  · have b := inB_t h
    obtain ⟨R, hR⟩ : ∃ R, R = bs (acsP v) 0 180000 := ⟨_, rfl⟩
    have HR := Lib.hid hR
    simp only [if_true]
    rw [← hR]
    clear hR
    go_enter Tryd.func19, Tryd.ntmps19
    go_wp2_with (go_at_call 59; (with_reducible refine (sIn _ _ _ _).mono ?_); rintro e w' ⟨rfl, rfl⟩)
    go_loopw [4, 5] (fun lo hi wr => ∃ (p q : Int), 0 ≤ p ∧ p ≤ q ∧ q ≤ 180000 ∧ lo = .int .i64 p ∧ hi = .int .i64 q ∧ Hid (bs (acsP v) p q = R) ∧ Below w.heap.size w wr) (fun lo hi _ => (intOf hi - intOf lo).toNat)
    case atStart => exact ⟨_, _, by omega, by omega, by omega, rfl, rfl, HR.out.symm, by (repeat (first | exact Below.refl _ _ | assumption | (refine Below.drewN ?_ _) | (refine Below.drew ?_) | (refine Below.alloc ?_ (by first | (simp; done) | (simp; omega) | omega) _) | (refine Below.setCell ?_ (by first | (simp; done) | (simp; omega) | omega) _) | (refine Below.trans ?_ (Below.mono (by assumption) (by first | (simp; done) | (simp; omega) | omega)))))⟩
    case round =>
      obtain ⟨p, q, h1, h2, h3, rfl, rfl, H4, hbr⟩ := hrel
      have hsr := hbr.size
      by_cases hlt : p < q
      · have hb := cosI_bd ((p + q) / 2)
        by_cases hg : cosI ((p + q) / 2) ≤ v
        · have H5 : Hid (bs (acsP v) p ((p + q) / 2) = R) := by rw [← H4.out]; exact (bs_yes hlt (decide_eq_true hg)).symm
          go_wp2_with (go_at_call 58; (with_reducible refine (sCosine _ _ (by omega) (by omega)).mono ?_); rintro e w' ⟨rfl, hb⟩; have hs := hb.size; (try simp at hs); (try have hz : w.heap.size < w'.heap.size := by omega); (try have hy : w.heap.size < w'.heap.size + 1 := by omega); (try have hyy : w.heap.size < w'.heap.size + 1 + 1 := by omega); (try have hz1 : w.heap.size + 1 < w'.heap.size := by omega); (try have hn : ¬ w'.heap.size = w.heap.size := by omega); (try have hn1 : ¬ w'.heap.size = w.heap.size + 1 := by omega); (try have hz2 : w.heap.size + 1 + 1 < w'.heap.size := by omega); (try have hq := Nat.lt_of_lt_of_le (by assumption) hs); (try have hq := Nat.lt_of_succ_le hs); obtain ⟨hc, hf⟩ := bcell hb; (try simp only [World.size_drew, World.cell?_drew, World.frozen?_drew] at hc hf))
          go_roundw
          case rel => exact ⟨p, (p + q) / 2, by omega, by omega, by omega, rfl, rfl, H5.out, by (repeat (first | exact Below.refl _ _ | assumption | (refine Below.drewN ?_ _) | (refine Below.drew ?_) | (refine Below.alloc ?_ (by first | (simp; done) | (simp; omega) | omega) _) | (refine Below.setCell ?_ (by first | (simp; done) | (simp; omega) | omega) _) | (refine Below.trans ?_ (Below.mono (by assumption) (by first | (simp; done) | (simp; omega) | omega)))))⟩
          case measure => simp [intOf]; omega
        · have H5 : Hid (bs (acsP v) ((p + q) / 2 + 1) q = R) := by rw [← H4.out]; exact (bs_no hlt (by unfold acsP; simpa using hg)).symm
          go_wp2_with (go_at_call 58; (with_reducible refine (sCosine _ _ (by omega) (by omega)).mono ?_); rintro e w' ⟨rfl, hb⟩; have hs := hb.size; (try simp at hs); (try have hz : w.heap.size < w'.heap.size := by omega); (try have hy : w.heap.size < w'.heap.size + 1 := by omega); (try have hyy : w.heap.size < w'.heap.size + 1 + 1 := by omega); (try have hz1 : w.heap.size + 1 < w'.heap.size := by omega); (try have hn : ¬ w'.heap.size = w.heap.size := by omega); (try have hn1 : ¬ w'.heap.size = w.heap.size + 1 := by omega); (try have hz2 : w.heap.size + 1 + 1 < w'.heap.size := by omega); (try have hq := Nat.lt_of_lt_of_le (by assumption) hs); (try have hq := Nat.lt_of_succ_le hs); obtain ⟨hc, hf⟩ := bcell hb; (try simp only [World.size_drew, World.cell?_drew, World.frozen?_drew] at hc hf))
          go_roundw
          case rel => exact ⟨(p + q) / 2 + 1, q, by omega, by omega, by omega, rfl, rfl, H5.out, by (repeat (first | exact Below.refl _ _ | assumption | (refine Below.drewN ?_ _) | (refine Below.drew ?_) | (refine Below.alloc ?_ (by first | (simp; done) | (simp; omega) | omega) _) | (refine Below.setCell ?_ (by first | (simp; done) | (simp; omega) | omega) _) | (refine Below.trans ?_ (Below.mono (by assumption) (by first | (simp; done) | (simp; omega) | omega)))))⟩
          case measure => simp [intOf]; omega
      · have H5 : Hid (p = R) := by rw [← H4.out]; exact (bs_end hlt).symm
        go_wp2
        go_ret2
        exact ⟨ret_ii H5.out rfl, by (repeat (first | exact Below.refl _ _ | assumption | (refine Below.drewN ?_ _) | (refine Below.drew ?_) | (refine Below.alloc ?_ (by first | (simp; done) | (simp; omega) | omega) _) | (refine Below.setCell ?_ (by first | (simp; done) | (simp; omega) | omega) _) | (refine Below.trans ?_ (Below.mono (by assumption) (by first | (simp; done) | (simp; omega) | omega)))))⟩
theorem walk_FnExactArcSine (a0 : Int) (w : World) (w0 : (Lit.int .i64 a0).wf = true) (hS : SinesIn w) :
    Calls Tryd.prog 8 #[.int .i64 a0] w fun e w' => e = .returned (.bool true) ∧ Below w.heap.size w w' := by
  clear w0
  go_enter Tryd.func8, Tryd.ntmps8
  go_wp2_with (first | (go_at_call 27; (with_reducible refine (sArcSine _ _).mono ?_); rintro e w' ⟨rfl, hb⟩; have hs := hb.size; (try simp at hs); (try have hz : w.heap.size < w'.heap.size := by omega); (try have hy : w.heap.size < w'.heap.size + 1 := by omega); (try have hyy : w.heap.size < w'.heap.size + 1 + 1 := by omega); (try have hz1 : w.heap.size + 1 < w'.heap.size := by omega); (try have hn : ¬ w'.heap.size = w.heap.size := by omega); (try have hn1 : ¬ w'.heap.size = w.heap.size + 1 := by omega); (try have hz2 : w.heap.size + 1 + 1 < w'.heap.size := by omega); (try have hq := Nat.lt_of_lt_of_le (by assumption) hs); (try have hq := Nat.lt_of_succ_le hs); obtain ⟨hc, hf⟩ := bcell hb; (try simp only [World.size_drew, World.cell?_drew, World.frozen?_drew] at hc hf)) | (go_at_call 28; (with_reducible refine (iArcSine _ _ (hS.below hb)).mono ?_); rintro e w' ⟨rfl, n, rfl⟩))
  go_ret
  exact ⟨rfl, by (repeat (first | exact Below.refl _ _ | assumption | (refine Below.drewN ?_ _) | (refine Below.drew ?_) | (refine Below.alloc ?_ (by first | (simp; done) | (simp; omega) | omega) _) | (refine Below.setCell ?_ (by first | (simp; done) | (simp; omega) | omega) _) | (refine Below.trans ?_ (Below.mono (by assumption) (by first | (simp; done) | (simp; omega) | omega)))))⟩
theorem walk_FnExactArcCosine (a0 : Int) (w : World) (w0 : (Lit.int .i64 a0).wf = true) (hS : SinesIn w) :
    Calls Tryd.prog 5 #[.int .i64 a0] w fun e w' => e = .returned (.bool true) ∧ Below w.heap.size w w' := by
  clear w0
  go_enter Tryd.func5, Tryd.ntmps5
  go_wp2_with (first | (go_at_call 19; (with_reducible refine (sArcCosine _ _).mono ?_); rintro e w' ⟨rfl, hb⟩; have hs := hb.size; (try simp at hs); (try have hz : w.heap.size < w'.heap.size := by omega); (try have hy : w.heap.size < w'.heap.size + 1 := by omega); (try have hyy : w.heap.size < w'.heap.size + 1 + 1 := by omega); (try have hz1 : w.heap.size + 1 < w'.heap.size := by omega); (try have hn : ¬ w'.heap.size = w.heap.size := by omega); (try have hn1 : ¬ w'.heap.size = w.heap.size + 1 := by omega); (try have hz2 : w.heap.size + 1 + 1 < w'.heap.size := by omega); (try have hq := Nat.lt_of_lt_of_le (by assumption) hs); (try have hq := Nat.lt_of_succ_le hs); obtain ⟨hc, hf⟩ := bcell hb; (try simp only [World.size_drew, World.cell?_drew, World.frozen?_drew] at hc hf)) | (go_at_call 20; (with_reducible refine (iArcCosine _ _ (hS.below hb)).mono ?_); rintro e w' ⟨rfl, n, rfl⟩))
  go_ret
  exact ⟨rfl, by (repeat (first | exact Below.refl _ _ | assumption | (refine Below.drewN ?_ _) | (refine Below.drew ?_) | (refine Below.alloc ?_ (by first | (simp; done) | (simp; omega) | omega) _) | (refine Below.setCell ?_ (by first | (simp; done) | (simp; omega) | omega) _) | (refine Below.trans ?_ (Below.mono (by assumption) (by first | (simp; done) | (simp; omega) | omega)))))⟩
end Go.Proofs.YtgeipijifcebmaaDoor
