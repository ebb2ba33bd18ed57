/-
  Drawn angles.
-/
import Derived.Test.YtghagmjpcebmjaaDoorSrc
import Derived.Test.YtghagmjpcebmjaaDoorHelp
namespace Go.Proofs.YtghagmjpcebmjaaDoor
set_option linter.unusedVariables false
set_option linter.unusedSimpArgs false
open Go.RowKit

theorem sAngD (B q m : Nat) (w : World) (S : Src w B q m) (hm : m ≤ 800000) :
    Calls Tryd.prog 106 #[.pointer (some ⟨q, 0, none⟩)] w (Drawn B q (m + 4) w fun v => 0 ≤ v ∧ v < 360000) := by
  go_enter Tryd.func106, Tryd.ntmps106
  go_wp2_with (go_at_call 107; (with_reducible refine (sPick _ _ _ _ _ (by assumption) (by omega) (by omega) (by omega)).mono ?_); rintro e w' ⟨v, rfl, ⟨hv1, hv2⟩, hsrc, hbut⟩)
  all_goals go_ret
  all_goals exact ⟨_, rfl, ⟨by omega, by omega⟩, hsrc.more (by omega), by (repeat (first | exact But.refl _ _ | assumption | (refine But.drewN ?_ _) | (refine But.drew ?_) | (refine But.alloc ?_ _) | (refine But.set ?_ _ _) | (refine But.setO ?_ (by omega) _ _) | (refine But.trans ?_ (by assumption)) | (refine But.trans ?_ (But.of_below (by assumption)))))⟩
theorem sWide (B q m : Nat) (w : World) (S : Src w B q m) (hm : m ≤ 700000) :
    Calls Tryd.prog 84 #[.pointer (some ⟨q, 0, none⟩)] w (Drawn B q (m + 10) w fun v => -9223372036854775808 ≤ v ∧ v ≤ 9223372036854775807) := by
  go_enter Tryd.func84, Tryd.ntmps84
  go_wp2_with fail
  (with_reducible refine (sAngD _ _ _ _ (by assumption) (by omega)).mono ?_)
  rintro e w1 ⟨a, rfl, ⟨a1, a2⟩, hs1, hb1⟩
  go_wp2_with fail
  (with_reducible refine (sPick _ _ _ _ _ hs1 (by omega) (by omega) (by omega)).mono ?_)
  rintro e w2 ⟨v, rfl, ⟨v1, v2⟩, hs2, hb2⟩
  have hv : v = 2 ∨ v ≠ 2 := by omega
  rcases hv with hv | hv
  · go_wp2_with fail
    (with_reducible refine (sAmongNew _ _ _ [9223372036854775807, -9223372036854775808, 0, 180000] _ _ _ _ hs2 (by simp) (by simp) (by omega) (by omega) (by omega)).mono ?_)
    rintro e w3 ⟨u, rfl, hu, hs3, hb3⟩
    have hu2 : -9223372036854775808 ≤ u ∧ u ≤ 9223372036854775807 := by simp at hu; omega
    clear hu
    go_wp2
    go_ret
    exact ⟨_, rfl, hu2, hs3.more (by omega), by (repeat (first | exact But.refl _ _ | assumption | (refine But.drewN ?_ _) | (refine But.drew ?_) | (refine But.alloc ?_ _) | (refine But.set ?_ _ _) | (refine But.setO ?_ (by omega) _ _) | (refine But.trans ?_ (by assumption)) | (refine But.trans ?_ (But.of_below (by assumption)))))⟩
  · go_wp2_with (go_at_call 107; (with_reducible refine (sPick _ _ _ _ _ (by assumption) (by omega) (by omega) (by omega)).mono ?_); rintro e w' ⟨v, rfl, ⟨hv1, hv2⟩, hsrc, hbut⟩)
    all_goals go_ret
    all_goals (first
      | exact ⟨_, rfl, ⟨by omega, by omega⟩, hsrc.more (by omega), by (repeat (first | exact But.refl _ _ | assumption | (refine But.drewN ?_ _) | (refine But.drew ?_) | (refine But.alloc ?_ _) | (refine But.set ?_ _ _) | (refine But.setO ?_ (by omega) _ _) | (refine But.trans ?_ (by assumption)) | (refine But.trans ?_ (But.of_below (by assumption)))))⟩
      | exact ⟨_, rfl, ⟨by omega, by omega⟩, hs2.more (by omega), by (repeat (first | exact But.refl _ _ | assumption | (refine But.drewN ?_ _) | (refine But.drew ?_) | (refine But.alloc ?_ _) | (refine But.set ?_ _ _) | (refine But.setO ?_ (by omega) _ _) | (refine But.trans ?_ (by assumption)) | (refine But.trans ?_ (But.of_below (by assumption)))))⟩)
def I64 (a : Int) : Prop := -9223372036854775808 ≤ a ∧ a ≤ 9223372036854775807
def TwoDrawn (w : World) (e : Ending) (w' : World) : Prop := ∃ a b : Int, e = .returned (.tuple #[.int .i64 a, .int .i64 b]) ∧ I64 a ∧ I64 b ∧ Below w.heap.size w w'
theorem sDrawAB (a0 : Option Addr) (n c : Nat) (zs : List Int) (w : World) (R : RowB w w.heap.size a0 n zs) (hn : n ≤ 1048576) :
    Calls Tryd.prog 49 #[.slice a0 n c] w (TwoDrawn w) := by
  have RA := Lib.hid R
  have HN := Lib.hid hn
  clear hn R
  go_enter Tryd.func49, Tryd.ntmps49
  go_wp2_with fail
  (with_reducible refine (sFromB _ _ _ _ w.heap.size _ RA.out (by omega) HN.out).mono ?_)
  rintro e w0 ⟨rfl, hs0, hb0, hlt0⟩
  go_wp2_with fail
  (with_reducible refine (sWide _ _ _ _ hs0 (by omega)).mono ?_)
  rintro e w1 ⟨a, rfl, ha, hs1, hb1⟩
  go_wp2_with fail
  (with_reducible refine (sWide _ _ _ _ hs1 (by omega)).mono ?_)
  rintro e w2 ⟨b, rfl, hb, hs2, hb2⟩
  go_wp2
  go_ret2
  exact ⟨_, _, rfl, ha, hb, hb0.trans ((hb1.trans hb2).below (Nat.le_refl _) hb0.size)⟩
def TriDrawn (w : World) (e : Ending) (w' : World) : Prop := ∃ a b s : Int, e = .returned (.tuple #[.int .i64 a, .int .i64 b, .int .i64 s]) ∧ I64 a ∧ I64 b ∧ I64 s ∧ Below w.heap.size w w'
theorem sDrawTT (a0 : Option Addr) (n c : Nat) (zs : List Int) (w : World) (R : RowB w w.heap.size a0 n zs) (hn : n ≤ 1048576) :
    Calls Tryd.prog 54 #[.slice a0 n c] w (TriDrawn w) := by
  have RA := Lib.hid R
  have HN := Lib.hid hn
  clear hn R
  go_enter Tryd.func54, Tryd.ntmps54
  go_wp2_with fail
  (with_reducible refine (sFromB _ _ _ _ w.heap.size _ RA.out (by omega) HN.out).mono ?_)
  rintro e w0 ⟨rfl, hs0, hb0, hlt0⟩
  go_wp2_with fail
  (with_reducible refine (sWide _ _ _ _ hs0 (by omega)).mono ?_)
  rintro e w1 ⟨a, rfl, ha, hs1, hb1⟩
  go_wp2_with fail
  (with_reducible refine (sWide _ _ _ _ hs1 (by omega)).mono ?_)
  rintro e w2 ⟨b, rfl, hb, hs2, hb2⟩
  go_wp2_with fail
  (with_reducible refine (sAmongNew _ _ _ [0, 1, 1000, 90000, 200000, -1, 9223372036854775807] _ _ _ _ hs2 (by simp) (by simp) (by omega) (by omega) (by omega)).mono ?_)
  rintro e w3 ⟨s, rfl, hs, hs3, hb3⟩
  have hs' : I64 s := by unfold I64; simp at hs; omega
  clear hs
  go_wp2
  exact bodyPost_ret (v := .tuple #[.int .i64 a, .int .i64 b, .int .i64 s]) (by simp [results, Tryd.results54, go_sem]) rfl ⟨_, _, _, rfl, ha, hb, hs', hb0.trans (((hb1.trans hb2).trans hb3).below (Nat.le_refl _) hb0.size)⟩
end Go.Proofs.YtghagmjpcebmjaaDoor
