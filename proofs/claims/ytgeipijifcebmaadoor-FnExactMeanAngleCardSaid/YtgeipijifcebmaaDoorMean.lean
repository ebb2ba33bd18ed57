/-
  Contracts of the mean of angles.
-/
import Derived.Test.YtgeipijifcebmaaDoorArc2
import Derived.Test.YtgeipijifcebmaaDoorSl
namespace Go.Proofs.YtgeipijifcebmaaDoor
set_option linter.unusedVariables false
set_option linter.unusedSimpArgs false
open Go.RowKit

def mS (zs : List Int) : Nat → Int
  | 0 => 0
  | k + 1 => mS zs k + sinI (zs.getD k 0)
def mC (zs : List Int) : Nat → Int
  | 0 => 0
  | k + 1 => mC zs k + cosI (zs.getD k 0)
theorem mS_bd (zs : List Int) (k : Nat) : -(1000000 * (k : Int)) ≤ mS zs k ∧ mS zs k ≤ 1000000 * (k : Int) := by
  induction k with
  | zero => simp [mS]
  | succ k ih => have := sinI_bd (zs.getD k 0); unfold mS; omega
theorem mC_bd (zs : List Int) (k : Nat) : -(1000000 * (k : Int)) ≤ mC zs k ∧ mC zs k ≤ 1000000 * (k : Int) := by
  induction k with
  | zero => simp [mC]
  | succ k ih => have := cosI_bd (zs.getD k 0); unfold mC; omega
def meA (zs : List Int) (n : Nat) : Int := if n ≤ 64 then atA (mS zs n) (mC zs n) else 0
def meK (zs : List Int) (n : Nat) : Int := if n ≤ 64 then atC (mS zs n) (mC zs n) else 5
def Wf64 (zs : List Int) : Prop := ∀ k, -9223372036854775808 ≤ zs.getD k 0 ∧ zs.getD k 0 ≤ 9223372036854775807
theorem wf64_of {zs : List Int} (h : ∀ z ∈ zs, (Lit.int .i64 z).wf = true) : Wf64 zs := fun k => by
  by_cases g : k < zs.length
  · have : zs.getD k 0 ∈ zs := by rw [show zs.getD k 0 = zs[k] by simp [List.getD, g]]; exact List.getElem_mem g
    exact bd64 (h _ this)
  · rw [show zs.getD k 0 = 0 by simp [List.getD, List.getElem?_eq_none (show zs.length ≤ k by omega)]]; omega
theorem RowAt.cell {w : World} {a : Option Addr} {n : Nat} {zs : List Int} (h : RowAt w a n zs) (hn : 0 < n) : ∃ b o, a = some ⟨b, o, none⟩ ∧ ∀ i, i < n → w.cell? ⟨b, o + i, none⟩ = some (.int .i64 (zs.getD i 0)) := by
  obtain ⟨_, h | h⟩ := h
  · omega
  · exact h
theorem iMeanBig (a : Option Addr) (n c : Nat) (w : World) (h : 64 < n) :
    Calls Tryd.prog 38 #[.slice a n c] w fun e w' => e = .returned (.tuple #[.int .i64 0, .int .i64 5]) ∧ ∃ m, w' = w.drewN m := by
  go_enter Tryd.func38, Tryd.ntmps38
  go_wp2
  go_ret2
  exact ⟨rfl, 0, rfl⟩
theorem iMeanNil (a : Option Addr) (n c : Nat) (w : World) (h : n = 0) (hS : SinesIn w) :
    Calls Tryd.prog 38 #[.slice a n c] w fun e w' => e = .returned (.tuple #[.int .i64 0, .int .i64 6]) ∧ ∃ m, w' = w.drewN m := by
  have e1 : atA 0 0 = 0 := by decide
  have e2 : atC 0 0 = 6 := by decide
  replace h : n ≤ 0 := by omega
  go_enter Tryd.func38, Tryd.ntmps38
  go_wp2
  refine wp_loop_rounds 1 ?_
  rw [rounds_succ]
  go_wp2_with (go_at_call 35; (with_reducible refine (iArcTangent _ _ _ (by first | assumption | exact SinesIn.drewN (by assumption) _)).mono ?_); rintro e w' ⟨rfl, n, rfl⟩)
  go_ret2
  exact ⟨ret_ii e1 e2, _, rfl⟩
theorem iMeanSome (b o n c : Nat) (zs : List Int) (w : World) (h0 : 0 < n) (h : n ≤ 64) (HC : Hid (∀ i, i < n → w.cell? ⟨b, o + i, none⟩ = some (.int .i64 (zs.getD i 0)))) (HW : Hid (Wf64 zs)) (hS : SinesIn w) :
    Calls Tryd.prog 38 #[.slice (some ⟨b, o, none⟩) n c] w fun e w' => e = .returned (.tuple #[.int .i64 (atA (mS zs n) (mC zs n)), .int .i64 (atC (mS zs n) (mC zs n))]) ∧ ∃ m, w' = w.drewN m := by
  go_enter Tryd.func38, Tryd.ntmps38
  go_wp2
  go_loopw [4, 5, 13] (fun s t i wr => ∃ k m : Nat, k ≤ n ∧ i = .int .i64 k ∧ s = .int .i64 (mS zs k) ∧ t = .int .i64 (mC zs k) ∧ wr = w.drewN m) (fun _ _ i _ => n - (intOf i).toNat)
  case atStart => exact ⟨0, 0, by omega, rfl, rfl, rfl, rfl⟩
  case round =>
    obtain ⟨k, m, hk, rfl, rfl, rfl, rfl⟩ := hrel
    have b1 := mS_bd zs k
    have b2 := mC_bd zs k
    by_cases hlt : k < n
    · have hc : w.cell? ⟨b, o + k, none⟩ = some (.int .i64 (zs.getD k 0)) := HC.out k hlt
      obtain ⟨z1, z2⟩ := HW.out k
      have E1 : Hid (mS zs (k + 1) = mS zs k + sinI (zs.getD k 0)) := rfl
      have E2 : Hid (mC zs (k + 1) = mC zs k + cosI (zs.getD k 0)) := rfl
      generalize zs.getD k 0 = z at *
      have b3 := sinI_bd z
      have b4 := cosI_bd z
      go_wp2_with (first | (go_at_call 16; (with_reducible refine (iSineOf _ _ (by omega) (by omega) (by first | assumption | exact SinesIn.drewN (by assumption) _)).mono ?_); rintro e w' ⟨rfl, n, rfl⟩) | (go_at_call 18; (with_reducible refine (iCosineOf _ _ (by omega) (by omega) (by first | assumption | exact SinesIn.drewN (by assumption) _)).mono ?_); rintro e w' ⟨rfl, n, rfl⟩))
      go_roundw
      case rel => exact ⟨k + 1, _, by omega, by go_num, by rw [E1.out], by rw [E2.out], rfl⟩
      case measure => simp [intOf]; omega
    · obtain rfl : k = n := by omega
      go_wp2_with (go_at_call 35; (with_reducible refine (iArcTangent _ _ _ (by first | assumption | exact SinesIn.drewN (by assumption) _)).mono ?_); rintro e w' ⟨rfl, n, rfl⟩)
      go_ret2
      exact ⟨rfl, _, rfl⟩
theorem iMean (a : Option Addr) (n c : Nat) (zs : List Int) (w : World) (H : RowAt w a n zs) (hW : Wf64 zs) (hS : SinesIn w) :
    Calls Tryd.prog 38 #[.slice a n c] w fun e w' => e = .returned (.tuple #[.int .i64 (meA zs n), .int .i64 (meK zs n)]) ∧ ∃ m, w' = w.drewN m := by
  unfold meA meK
  by_cases h : n ≤ 64
  · rw [if_pos h, if_pos h]
    by_cases h0 : n = 0
    · have := iMeanNil a n c w h0 hS
      subst h0
      exact this
    · obtain ⟨b, o, rfl, hc⟩ := H.cell (by omega)
      exact iMeanSome b o n c zs w (by omega) h (Lib.hid hc) (Lib.hid hW) hS
  · rw [if_neg h, if_neg h]
    exact iMeanBig a n c w (by omega)
theorem sMeanBig (a : Option Addr) (n c : Nat) (w : World) (h : 64 < n) :
    Calls Tryd.prog 36 #[.slice a n c] w fun e w' => e = .returned (.tuple #[.int .i64 0, .int .i64 5]) ∧ Below w.heap.size w w' := by
  go_enter Tryd.func36, Tryd.ntmps36
  go_wp2
  go_ret2
  exact ⟨rfl, Below.refl _ _⟩
theorem sMeanNil (a : Option Addr) (n c : Nat) (w : World) (h : n = 0) :
    Calls Tryd.prog 36 #[.slice a n c] w fun e w' => e = .returned (.tuple #[.int .i64 0, .int .i64 6]) ∧ Below w.heap.size w w' := by
  replace h : n ≤ 0 := by omega
  go_enter Tryd.func36, Tryd.ntmps36
  go_wp2
  refine wp_loop_rounds 1 ?_
  rw [rounds_succ]
  go_wp2
  go_ret2
  exact ⟨rfl, by (repeat (first | exact Below.refl _ _ | assumption | (refine Below.drewN ?_ _) | (refine Below.drew ?_) | (refine Below.alloc ?_ (by first | (simp; done) | (simp; omega) | omega) _) | (refine Below.setCell ?_ (by first | (simp; done) | (simp; omega) | omega) _) | (refine Below.trans ?_ (Below.mono (by assumption) (by first | (simp; done) | (simp; omega) | omega)))))⟩
theorem sMeanSome (b o n c : Nat) (zs : List Int) (w : World) (h0 : 0 < n) (h : n ≤ 64) (HC : Hid (∀ i, i < n → w.cell? ⟨b, o + i, none⟩ = some (.int .i64 (zs.getD i 0)))) (HW : Hid (Wf64 zs)) :
    Calls Tryd.prog 36 #[.slice (some ⟨b, o, none⟩) n c] w fun e w' => e = .returned (.tuple #[.int .i64 (atA (mS zs n) (mC zs n)), .int .i64 (atC (mS zs n) (mC zs n))]) ∧ Below w.heap.size w w' := by
  have q1 := mS_bd zs n
  have q2 := mC_bd zs n
  have hat : atB (mS zs n) (mC zs n) = true := by unfold atB; rw [inB_mk ⟨by omega, by omega⟩, inB_mk ⟨by omega, by omega⟩]; rfl
  have EA : Hid (atA (mS zs n) (mC zs n) = if (mC zs n == 0 && mS zs n == 0) then 0 else arcF (mS zs n) (mC zs n)) := by show _ = _; unfold atA; rw [hat, if_pos rfl]
  have EC : Hid (atC (mS zs n) (mC zs n) = if (mC zs n == 0 && mS zs n == 0) then 6 else 0) := by show _ = _; unfold atC; rw [hat, if_pos rfl]
  clear hat
  go_enter Tryd.func36, Tryd.ntmps36
  go_wp2
  go_loopw [4, 5, 6] (fun t s i wr => ∃ k : Nat, k ≤ n ∧ i = .int .i64 k ∧ s = .int .i64 (mS zs k) ∧ t = .int .i64 (mC zs k) ∧ Below w.heap.size w wr) (fun _ _ i _ => n - (intOf i).toNat)
  case atStart => exact ⟨0, by omega, rfl, rfl, rfl, Below.refl _ _⟩
  case round =>
    obtain ⟨k, hk, rfl, rfl, rfl, hb⟩ := hrel
    have hsr := hb.size
    have b1 := mS_bd zs k
    have b2 := mC_bd zs k
    by_cases hlt : k < n
    · have hc0 := HC.out k hlt
      have hblt := cell_lt hc0
      have hc : wr.cell? ⟨b, o + k, none⟩ = some (.int .i64 (zs.getD k 0)) := ((bcell hb).1 _ _ hblt).trans hc0
      have hbr : b < wr.heap.size := by omega
      clear hc0
      obtain ⟨z1, z2⟩ := HW.out k
      have E1 : Hid (mS zs (k + 1) = mS zs k + sinI (zs.getD k 0)) := rfl
      have E2 : Hid (mC zs (k + 1) = mC zs k + cosI (zs.getD k 0)) := rfl
      generalize zs.getD k 0 = z at *
      have b3 := sinI_bd z
      have b4 := cosI_bd z
      go_wp2_with (first | (go_at_call 58; (with_reducible refine (sCosine _ _ (by omega) (by omega)).mono ?_); rintro e w' ⟨rfl, hb⟩; have hs := hb.size; (try simp at hs); (try have hz : w.heap.size < w'.heap.size := by omega); (try have hy : w.heap.size < w'.heap.size + 1 := by omega); (try have hyy : w.heap.size < w'.heap.size + 1 + 1 := by omega); (try have hz1 : w.heap.size + 1 < w'.heap.size := by omega); (try have hn : ¬ w'.heap.size = w.heap.size := by omega); (try have hn1 : ¬ w'.heap.size = w.heap.size + 1 := by omega); (try have hz2 : w.heap.size + 1 + 1 < w'.heap.size := by omega); (try have hq := Nat.lt_of_lt_of_le (by assumption) hs); (try have hq := Nat.lt_of_succ_le hs); obtain ⟨hc, hf⟩ := bcell hb; (try simp only [World.size_drew, World.cell?_drew, World.frozen?_drew, World.heap_drewN, World.cell?_drewN, World.frozen?_drewN] at hc hf)) | (go_at_call 55; (with_reducible refine (sSine _ _ (by omega) (by omega)).mono ?_); rintro e w' ⟨rfl, hb⟩; have hs := hb.size; (try simp at hs); (try have hz : w.heap.size < w'.heap.size := by omega); (try have hy : w.heap.size < w'.heap.size + 1 := by omega); (try have hyy : w.heap.size < w'.heap.size + 1 + 1 := by omega); (try have hz1 : w.heap.size + 1 < w'.heap.size := by omega); (try have hn : ¬ w'.heap.size = w.heap.size := by omega); (try have hn1 : ¬ w'.heap.size = w.heap.size + 1 := by omega); (try have hz2 : w.heap.size + 1 + 1 < w'.heap.size := by omega); (try have hq := Nat.lt_of_lt_of_le (by assumption) hs); (try have hq := Nat.lt_of_succ_le hs); obtain ⟨hc, hf⟩ := bcell hb; (try simp only [World.size_drew, World.cell?_drew, World.frozen?_drew, World.heap_drewN, World.cell?_drewN, World.frozen?_drewN] at hc hf)))
      go_roundw
      case rel => exact ⟨k + 1, by omega, by go_num, by rw [E1.out], by rw [E2.out], by (repeat (first | exact Below.refl _ _ | assumption | (refine Below.drewN ?_ _) | (refine Below.drew ?_) | (refine Below.alloc ?_ (by first | (simp; done) | (simp; omega) | omega) _) | (refine Below.setCell ?_ (by first | (simp; done) | (simp; omega) | omega) _) | (refine Below.trans ?_ (Below.mono (by assumption) (by first | (simp; done) | (simp; omega) | omega)))))⟩
      case measure => simp [intOf]; omega
    · obtain rfl : k = n := by omega
      clear q1 q2
      cases g1 : (mC zs k == 0)
      · have e1 : atA (mS zs k) (mC zs k) = arcF (mS zs k) (mC zs k) := by rw [EA.out, g1]; rfl
        have e2 : atC (mS zs k) (mC zs k) = 0 := by rw [EC.out, g1]; rfl
        have E := Lib.hid (And.intro e1 e2)
        clear e1 e2 EA EC
        go_wp2_with (go_at_call 76; (with_reducible refine (sArc _ _ _ (by omega) (by omega) (by omega) (by omega)).mono ?_); rintro e w' ⟨rfl, hb⟩; have hs := hb.size; (try simp at hs); (try have hz : w.heap.size < w'.heap.size := by omega); (try have hy : w.heap.size < w'.heap.size + 1 := by omega); (try have hyy : w.heap.size < w'.heap.size + 1 + 1 := by omega); (try have hz1 : w.heap.size + 1 < w'.heap.size := by omega); (try have hn : ¬ w'.heap.size = w.heap.size := by omega); (try have hn1 : ¬ w'.heap.size = w.heap.size + 1 := by omega); (try have hz2 : w.heap.size + 1 + 1 < w'.heap.size := by omega); (try have hq := Nat.lt_of_lt_of_le (by assumption) hs); (try have hq := Nat.lt_of_succ_le hs); obtain ⟨hc, hf⟩ := bcell hb; (try simp only [World.size_drew, World.cell?_drew, World.frozen?_drew, World.heap_drewN, World.cell?_drewN, World.frozen?_drewN] at hc hf))
        go_ret2
        exact ⟨ret_ii E.out.1.symm E.out.2.symm, by (repeat (first | exact Below.refl _ _ | assumption | (refine Below.drewN ?_ _) | (refine Below.drew ?_) | (refine Below.alloc ?_ (by first | (simp; done) | (simp; omega) | omega) _) | (refine Below.setCell ?_ (by first | (simp; done) | (simp; omega) | omega) _) | (refine Below.trans ?_ (Below.mono (by assumption) (by first | (simp; done) | (simp; omega) | omega)))))⟩
      · cases g2 : (mS zs k == 0)
        · have e1 : atA (mS zs k) (mC zs k) = arcF (mS zs k) (mC zs k) := by rw [EA.out, g1, g2]; rfl
          have e2 : atC (mS zs k) (mC zs k) = 0 := by rw [EC.out, g1, g2]; rfl
          have E := Lib.hid (And.intro e1 e2)
          clear e1 e2 EA EC
          go_wp2_with (go_at_call 76; (with_reducible refine (sArc _ _ _ (by omega) (by omega) (by omega) (by omega)).mono ?_); rintro e w' ⟨rfl, hb⟩; have hs := hb.size; (try simp at hs); (try have hz : w.heap.size < w'.heap.size := by omega); (try have hy : w.heap.size < w'.heap.size + 1 := by omega); (try have hyy : w.heap.size < w'.heap.size + 1 + 1 := by omega); (try have hz1 : w.heap.size + 1 < w'.heap.size := by omega); (try have hn : ¬ w'.heap.size = w.heap.size := by omega); (try have hn1 : ¬ w'.heap.size = w.heap.size + 1 := by omega); (try have hz2 : w.heap.size + 1 + 1 < w'.heap.size := by omega); (try have hq := Nat.lt_of_lt_of_le (by assumption) hs); (try have hq := Nat.lt_of_succ_le hs); obtain ⟨hc, hf⟩ := bcell hb; (try simp only [World.size_drew, World.cell?_drew, World.frozen?_drew, World.heap_drewN, World.cell?_drewN, World.frozen?_drewN] at hc hf))
          go_ret2
          exact ⟨ret_ii E.out.1.symm E.out.2.symm, by (repeat (first | exact Below.refl _ _ | assumption | (refine Below.drewN ?_ _) | (refine Below.drew ?_) | (refine Below.alloc ?_ (by first | (simp; done) | (simp; omega) | omega) _) | (refine Below.setCell ?_ (by first | (simp; done) | (simp; omega) | omega) _) | (refine Below.trans ?_ (Below.mono (by assumption) (by first | (simp; done) | (simp; omega) | omega)))))⟩
        · have e1 : atA (mS zs k) (mC zs k) = 0 := by rw [EA.out, g1, g2]; rfl
          have e2 : atC (mS zs k) (mC zs k) = 6 := by rw [EC.out, g1, g2]; rfl
          have E := Lib.hid (And.intro e1 e2)
          clear e1 e2 EA EC
          go_wp2_with (go_at_call 76; (with_reducible refine (sArc _ _ _ (by omega) (by omega) (by omega) (by omega)).mono ?_); rintro e w' ⟨rfl, hb⟩; have hs := hb.size; (try simp at hs); (try have hz : w.heap.size < w'.heap.size := by omega); (try have hy : w.heap.size < w'.heap.size + 1 := by omega); (try have hyy : w.heap.size < w'.heap.size + 1 + 1 := by omega); (try have hz1 : w.heap.size + 1 < w'.heap.size := by omega); (try have hn : ¬ w'.heap.size = w.heap.size := by omega); (try have hn1 : ¬ w'.heap.size = w.heap.size + 1 := by omega); (try have hz2 : w.heap.size + 1 + 1 < w'.heap.size := by omega); (try have hq := Nat.lt_of_lt_of_le (by assumption) hs); (try have hq := Nat.lt_of_succ_le hs); obtain ⟨hc, hf⟩ := bcell hb; (try simp only [World.size_drew, World.cell?_drew, World.frozen?_drew, World.heap_drewN, World.cell?_drewN, World.frozen?_drewN] at hc hf))
          go_ret2
          exact ⟨ret_ii E.out.1.symm E.out.2.symm, by (repeat (first | exact Below.refl _ _ | assumption | (refine Below.drewN ?_ _) | (refine Below.drew ?_) | (refine Below.alloc ?_ (by first | (simp; done) | (simp; omega) | omega) _) | (refine Below.setCell ?_ (by first | (simp; done) | (simp; omega) | omega) _) | (refine Below.trans ?_ (Below.mono (by assumption) (by first | (simp; done) | (simp; omega) | omega)))))⟩
theorem sMean (a : Option Addr) (n c : Nat) (zs : List Int) (w : World) (H : RowAt w a n zs) (hW : Wf64 zs) :
    Calls Tryd.prog 36 #[.slice a n c] w fun e w' => e = .returned (.tuple #[.int .i64 (meA zs n), .int .i64 (meK zs n)]) ∧ Below w.heap.size w w' := by
  unfold meA meK
  by_cases h : n ≤ 64
  · rw [if_pos h, if_pos h]
    by_cases h0 : n = 0
    · have := sMeanNil a n c w h0
      subst h0
      exact this
    · obtain ⟨b, o, rfl, hc⟩ := H.cell (by omega)
      exact sMeanSome b o n c zs w (by omega) h (Lib.hid hc) (Lib.hid hW)
  · rw [if_neg h, if_neg h]
    exact sMeanBig a n c w (by omega)
theorem walk_FnExactMeanAngle (a0 : Option Addr) (len0 cap0 : Nat) (z0 : List Int) (w : World) (w0 : IsRow .i64 w a0 len0 cap0 z0) (hS : SinesIn w) :
    Calls Tryd.prog 12 #[.slice a0 len0 cap0] w fun e w' => e = .returned (.bool true) ∧ Below w.heap.size w w' := by
  obtain ⟨R0, hz⟩ := w0.rowAt
  have hW := Lib.hid (wf64_of hz)
  clear hz w0
  generalize z0.take len0 = zs at *
  by_cases hl : len0 ≤ 1048576
  · go_enter Tryd.func12, Tryd.ntmps12
    go_wp2_with fail
    (with_reducible refine (lToInt64S _ _ _ _ _ R0 hl).mono ?_)
    rintro e w1 ⟨rfl, R1, hb1, hg1⟩
    have R01 := R0.below hb1
    have hS1 := hS.below hb1
    clear R0 hS
    go_wp2_with fail
    (with_reducible refine (sMean _ _ _ _ _ R1 hW.out).mono ?_)
    rintro e w2 ⟨rfl, hb2⟩
    have R02 := R01.below hb2
    have hS2 := hS1.below hb2
    clear R01 R1 hS1
    go_wp2_with fail
    (with_reducible refine (lToInt64S _ _ _ _ _ R02 hl).mono ?_)
    rintro e w3 ⟨rfl, R3, hb3, hg3⟩
    have R03 := R02.below hb3
    have hS3 := hS2.below hb3
    clear R02 hS2
    go_wp2_with fail
    (with_reducible refine (iMean _ _ _ _ _ R3 hW.out hS3).mono ?_)
    rintro e w' ⟨rfl, m, rfl⟩
    go_wp2_with fail
    (with_reducible refine (lToInt64S _ _ _ _ _ (R03.drewN _) hl).mono ?_)
    rintro e w4 ⟨rfl, R4, hb4, hg4⟩
    have R34 := (R3.drewN m).below hb4
    have R4 : RowAt w4 (some ⟨w3.heap.size, 0, none⟩) len0 zs := R4
    clear R3 R03
    go_wp2_with fail
    (with_reducible refine (lEqInt64S _ _ _ _ _ _ _ R34 R4 hl).mono ?_)
    rintro e w' ⟨rfl, m', rfl⟩
    go_wp2
    go_ret
    have s1 := hb1.size
    have s2 := hb2.size
    have s3 := hb3.size
    exact ⟨rfl, ((((hb1.trans (hb2.mono (by omega))).trans (hb3.mono (by omega))).drewN m).trans (hb4.mono (by simp; omega))).drewN m'⟩
  · have hl : 1048576 < len0 := by omega
    go_enter Tryd.func12, Tryd.ntmps12
    go_wp2
    go_ret
    exact ⟨rfl, by (repeat (first | exact Below.refl _ _ | assumption | (refine Below.drewN ?_ _) | (refine Below.drew ?_) | (refine Below.alloc ?_ (by first | (simp; done) | (simp; omega) | omega) _) | (refine Below.setCell ?_ (by first | (simp; done) | (simp; omega) | omega) _) | (refine Below.trans ?_ (Below.mono (by assumption) (by first | (simp; done) | (simp; omega) | omega)))))⟩
end Go.Proofs.YtgeipijifcebmaaDoor
