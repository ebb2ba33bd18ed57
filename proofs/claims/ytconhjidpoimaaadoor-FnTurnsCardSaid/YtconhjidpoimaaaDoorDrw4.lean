/-
  Drawn pairs with a share.
-/
import Derived.Test.YtconhjidpoimaaaDoorDrw2
import Derived.Test.YtconhjidpoimaaaDoorDrw3
namespace Go.Proofs.YtconhjidpoimaaaDoor
set_option linter.unusedVariables false
set_option linter.unusedSimpArgs false
open Go.RowKit
attribute [local go_sem ↓] Go.wp_at_zero Go.wp_at_succ
attribute [local go_sem] nn_e2 nn_e3 nn_e4 nn_f2 nn_f3 nn_f4 nn_l2 nn_l3 nn_l4 nn_m3 nn_m4 nn_k4

theorem row5K (W : World) (H : Nat) (h0 : W.cell? ⟨H, 0, none⟩ = some (.int .i64 (-1))) (h1 : W.cell? ⟨H, 1, none⟩ = some (.int .i64 0)) (h2 : W.cell? ⟨H, 2, none⟩ = some (.int .i64 500)) (h3 : W.cell? ⟨H, 3, none⟩ = some (.int .i64 1000)) (h4 : W.cell? ⟨H, 4, none⟩ = some (.int .i64 1001)) : RowAt W (some ⟨H, 0, none⟩) 5 [-1, 0, 500, 1000, 1001] := by
  refine ⟨rfl, .inr ⟨H, 0, rfl, fun i hi => ?_⟩⟩
  match i, hi with
  | 0, _ => exact h0
  | 1, _ => exact h1
  | 2, _ => exact h2
  | 3, _ => exact h3
  | 4, _ => exact h4
theorem six (w' : World) (A B : Nat) (hAB : ¬ A = B) (x y z p q r : Int) {a0 a1 a2 b0 b1 b2 : Value} (h0 : w'.cell? ⟨A, 0, none⟩ = some a0) (h1 : w'.cell? ⟨A, 1, none⟩ = some a1) (h2 : w'.cell? ⟨A, 2, none⟩ = some a2) (h3 : w'.cell? ⟨B, 0, none⟩ = some b0) (h4 : w'.cell? ⟨B, 1, none⟩ = some b1) (h5 : w'.cell? ⟨B, 2, none⟩ = some b2) :
    ∀ F, F = ((((((w'.setCell ⟨A, 0, none⟩ (.int .i64 x)).setCell ⟨A, 1, none⟩ (.int .i64 y)).setCell ⟨A, 2, none⟩ (.int .i64 z)).setCell ⟨B, 0, none⟩ (.int .i64 p)).setCell ⟨B, 1, none⟩ (.int .i64 q)).setCell ⟨B, 2, none⟩ (.int .i64 r)) →
      F.cell? ⟨A, 0, none⟩ = some (.int .i64 x) ∧ F.cell? ⟨A, 1, none⟩ = some (.int .i64 y) ∧ F.cell? ⟨A, 2, none⟩ = some (.int .i64 z) ∧ F.cell? ⟨B, 0, none⟩ = some (.int .i64 p) ∧ F.cell? ⟨B, 1, none⟩ = some (.int .i64 q) ∧ F.cell? ⟨B, 2, none⟩ = some (.int .i64 r) := by
  have o : ∀ {W : World} {a b : Nat} {i j : Nat} {v : Value}, (a ≠ b ∨ i ≠ j) → (W.setCell ⟨b, j, none⟩ v).cell? ⟨a, i, none⟩ = W.cell? ⟨a, i, none⟩ := fun h => World.cell?_setCell_other _ _ _ _ (by intro e; injection e with e1 e2; rcases h with h | h; exact h e1.symm; exact h e2.symm)
  have s : ∀ {W : World} {a i : Nat} {v u : Value}, W.cell? ⟨a, i, none⟩ = some u → (W.setCell ⟨a, i, none⟩ v).cell? ⟨a, i, none⟩ = some v := fun h => World.cell?_setCell_same _ _ _ h
  have hBA : ¬ B = A := fun e => hAB e.symm
  rintro F rfl
  refine ⟨?_, ?_, ?_, ?_, ?_, ?_⟩
  · rw [o (.inl hAB), o (.inl hAB), o (.inl hAB), o (.inr (by omega)), o (.inr (by omega)), s h0]
  · rw [o (.inl hAB), o (.inl hAB), o (.inl hAB), o (.inr (by omega)), s ((o (.inr (by omega))).trans h1)]
  · rw [o (.inl hAB), o (.inl hAB), o (.inl hAB), s ((o (.inr (by omega))).trans ((o (.inr (by omega))).trans h2))]
  · rw [o (.inr (by omega)), o (.inr (by omega)), s ((o (.inl hBA)).trans ((o (.inl hBA)).trans ((o (.inl hBA)).trans h3)))]
  · rw [o (.inr (by omega)), s ((o (.inr (by omega))).trans ((o (.inl hBA)).trans ((o (.inl hBA)).trans ((o (.inl hBA)).trans h4))))]
  · rw [s ((o (.inr (by omega))).trans ((o (.inr (by omega))).trans ((o (.inl hBA)).trans ((o (.inl hBA)).trans ((o (.inl hBA)).trans h5)))))]
def BlvDrawn (w : World) (e : Ending) (w' : World) : Prop := ∃ x y z x' y' z' s : Int, e = .returned (.tuple #[.agg #[.int .i64 x, .int .i64 y, .int .i64 z], .agg #[.int .i64 x', .int .i64 y', .int .i64 z'], .int .i64 s]) ∧ Below w.heap.size w w'
set_option maxHeartbeats 16000000 in
theorem sDrawBlv (a0 : Option Addr) (n c : Nat) (zs : List Int) (w : World) (R : RowB w w.heap.size a0 n zs) (hn : n ≤ 1048576) :
    Calls Tryd.prog 17 #[.slice a0 n c] w (BlvDrawn w) := by
  have RA := fun o p => RowB.low (B := w.heap.size) R (((Below.refl w.heap.size w).alloc (Nat.le_refl _) o).alloc (by simp) p)
  have HN := Lib.hid hn
  clear hn R
  go_enter Tryd.func17, Tryd.ntmps17
  go_wp2_with fail
  (with_reducible refine (sFromB _ _ _ _ w.heap.size _ (RA _ _) (by simp; omega) HN.out).mono ?_)
  rintro e w1 ⟨rfl, hsrc, hb1, hlt1⟩
  have hsrc : Src w1 w.heap.size (w.heap.size + 1 + 1) 0 := by simpa using hsrc
  have T1 := Lib.hid (((Tri.new w 0 0 0 26).alloc (.cells #[.int .i64 0, .int .i64 0, .int .i64 0] 26)).below hb1)
  have U1 : Hid (Tri w1 (w.heap.size + 1) 0 0 0) := by
    have h := Tri.new (w.alloc (.cells #[.int .i64 0, .int .i64 0, .int .i64 0] 26)) 0 0 0 26
    rw [World.size_alloc] at h
    exact Lib.hid (h.below hb1)
  have hbw : Below w.heap.size w w1 := (((Below.refl w.heap.size w).alloc (Nat.le_refl _) _).alloc (by simp) _).trans (hb1.mono (by simp; omega))
  have n0 : w.heap.size ≠ w.heap.size + 1 + 1 := by omega
  have n1 : w.heap.size + 1 ≠ w.heap.size + 1 + 1 := by omega
  have hz1 := hbw.size
  clear hb1 RA
  go_wp2_with fail
  (with_reducible refine (sTwo _ _ _ _ hsrc (by omega)).mono ?_)
  rintro e w2 ⟨x, y, z, x', y', z', rfl, hs2, hb2⟩
  have T2 := Lib.hid (T1.out.but hb2 n0)
  have U2 := Lib.hid (U1.out.but hb2 n1)
  have hbw2 : Below w.heap.size w w2 := hbw.trans (hb2.below (by omega) hbw.size)
  have hz2 := hs2.lt
  clear T1 U1 hb2 hbw hsrc hlt1
  have g0 : w2.heap.size ≠ w.heap.size + 1 + 1 := by omega
  have g1 : w2.heap.size + 1 ≠ w.heap.size + 1 + 1 := by omega
  go_wp2_with fail
  (with_reducible refine (sOne _ _ _ _ _ ((hs2.alloc _).alloc _) (by omega) (by omega) (by omega)).mono ?_)
  rintro e w3 ⟨vb, rfl, hs3, hb3⟩
  have T3 := Lib.hid (((T2.out.alloc _).alloc _).but hb3 n0)
  have U3 := Lib.hid (((U2.out.alloc _).alloc _).but hb3 n1)
  have M3 := Lib.hid (((Tri.new w2 x y z 26).alloc (.cells #[.int .i64 x', .int .i64 y', .int .i64 z'] 26)).but hb3 g0)
  have L3 : Hid (Tri w3 (w2.heap.size + 1) x' y' z') := by
    have h := Tri.new (w2.alloc (.cells #[.int .i64 x, .int .i64 y, .int .i64 z] 26)) x' y' z' 26
    rw [World.size_alloc] at h
    exact Lib.hid (h.but hb3 g1)
  have hbw3 : Below w.heap.size w w3 := ((hbw2.alloc (by omega) _).alloc (by simp; omega) _).trans (hb3.below (by omega) (by simp; omega))
  have hz4 : w2.heap.size + 1 < w3.heap.size := by have := hb3.size; simp at this; omega
  clear T2 U2 hb3 hbw2 hs2
  obtain ⟨k1, k2, k3, k4, k5, k6⟩ := T3.out
  obtain ⟨i1, i2, i3, i4, i5, i6⟩ := U3.out
  obtain ⟨j1, j2, j3, j4, j5, j6⟩ := M3.out
  obtain ⟨l1, l2, l3, l4, l5, l6⟩ := L3.out
  clear T3 U3 M3 L3
  have c0 : w.heap.size < w3.heap.size := by omega
  have c1 : w.heap.size + 1 < w3.heap.size := by omega
  have c2 : w2.heap.size < w3.heap.size := by omega
  have b0 : ¬ w.heap.size = w.heap.size + 1 + 1 := n0
  have b1 : ¬ w.heap.size + 1 = w.heap.size + 1 + 1 := n1
  have b2 : ¬ w2.heap.size = w.heap.size + 1 + 1 := g0
  have b3 : ¬ w2.heap.size + 1 = w.heap.size + 1 + 1 := g1
  have d0 : ¬ w2.heap.size = w.heap.size := by omega
  have d1 : ¬ w2.heap.size = w.heap.size + 1 := by omega
  have d2 : ¬ w.heap.size = w2.heap.size := by omega
  have d3 : ¬ w.heap.size + 1 = w2.heap.size := by omega
  have d4 : ¬ w2.heap.size + 1 = w.heap.size := by omega
  have d5 : ¬ w.heap.size = w2.heap.size + 1 := by omega
  have d6 : ¬ w2.heap.size + 1 = w.heap.size + 1 := by omega
  have d7 : ¬ w.heap.size + 1 = w2.heap.size + 1 := by omega
  cases vb
  · go_wp2_with fail
    go_region_held3 (fun w' => w'.cell? ⟨w2.heap.size, 0, none⟩ = some (.int .i64 x) ∧ w'.cell? ⟨w2.heap.size, 1, none⟩ = some (.int .i64 y) ∧ w'.cell? ⟨w2.heap.size, 2, none⟩ = some (.int .i64 z) ∧ w'.cell? ⟨w2.heap.size + 1, 0, none⟩ = some (.int .i64 x') ∧ w'.cell? ⟨w2.heap.size + 1, 1, none⟩ = some (.int .i64 y') ∧ w'.cell? ⟨w2.heap.size + 1, 2, none⟩ = some (.int .i64 z')) (simp [*, World.cell?_alloc_some, World.cell?_setCell_far, World.cell?_alloc_past, nn_e2, nn_e3, nn_e4, nn_f2, nn_f3, nn_f4, nn_l2, nn_l3, nn_l4, nn_m3, nn_m4, nn_k4]) (first | (go_at_call 40; (with_reducible refine (sPick w.heap.size (w.heap.size + 1 + 1) (0 + 40 + 2) _ _ (by ((repeat (first | assumption | (refine Src.drew ?_) | (refine Src.drewN ?_ _) | (refine Src.other ?_ (by omega) (by omega) _ _) | (refine Src.alloc ?_ _))))) (by omega) (by omega) (by omega)).mono ?_); rintro e w' ⟨g, rfl, hg, hs4, hbX⟩; have hcB := fun b o h1 h2 => But.cell hbX (b := b) o h1 h2; have hfB := fun b o h1 h2 => But.frozen hbX (b := b) o h1 h2; (try simp only [World.size_drew, World.cell?_drew, World.frozen?_drew, World.heap_drewN, World.cell?_drewN, World.frozen?_drewN] at hcB hfB)))
    all_goals have hbw4 := hbw3.trans (((But.drewN (But.refl (w.heap.size + 1 + 1) w3) _).trans hbX).below (by omega) hbw3.size)
    all_goals go_wp2
    all_goals have hcell : ∀ b o, b < w3.heap.size → b ≠ w.heap.size + 1 + 1 → w'.cell? ⟨b, o, none⟩ = w3.cell? ⟨b, o, none⟩ := fun b o h1 h2 => (But.cell hbX (b := b) o (by first | (simp; done) | (simp; omega) | omega) h2).trans (by first | rfl | exact World.cell?_alloc_past _ _ _ (by first | omega | (simp; done) | (simp; omega)))
    all_goals have hsix := six w' w.heap.size (w.heap.size + 1) (by omega) x y z x' y' z' ((hcell _ _ c0 b0).trans k1) ((hcell _ _ c0 b0).trans k2) ((hcell _ _ c0 b0).trans k3) ((hcell _ _ c1 b1).trans i1) ((hcell _ _ c1 b1).trans i2) ((hcell _ _ c1 b1).trans i3) _ rfl
    all_goals refine bodyPost_ret (v := .tuple #[.agg #[.int .i64 x, .int .i64 y, .int .i64 z], .agg #[.int .i64 x', .int .i64 y', .int .i64 z'], .int .i64 g]) ?_ rfl ⟨x, y, z, x', y', z', g, rfl, (((((hbw4.setCell (Nat.le_refl _) _).setCell (Nat.le_refl _) _).setCell (Nat.le_refl _) _).setCell (Nat.le_succ _) _).setCell (Nat.le_succ _) _).setCell (Nat.le_succ _) _⟩
    all_goals (obtain ⟨f0, f1, f2, f3, f4, f5⟩ := hsix)
    all_goals (generalize ((((((w'.setCell ⟨w.heap.size, 0, none⟩ (.int .i64 x)).setCell ⟨w.heap.size, 1, none⟩ (.int .i64 y)).setCell ⟨w.heap.size, 2, none⟩ (.int .i64 z)).setCell ⟨w.heap.size + 1, 0, none⟩ (.int .i64 x')).setCell ⟨w.heap.size + 1, 1, none⟩ (.int .i64 y')).setCell ⟨w.heap.size + 1, 2, none⟩ (.int .i64 z')) = F at f0 f1 f2 f3 f4 f5 ⊢)
    all_goals simp [results, Tryd.results17, go_sem, f0, f1, f2, f3, f4, f5]
  · have e1 : w2.heap.size ≤ w3.heap.size := by omega
    have e2 : w2.heap.size + 1 ≤ w3.heap.size := by omega
    have e3 : w.heap.size ≤ w3.heap.size := by omega
    have e4 : w.heap.size + 1 ≤ w3.heap.size := by omega
    have e5 : w2.heap.size < w3.heap.size + 1 := by omega
    have e6 : w2.heap.size + 1 < w3.heap.size + 1 := by omega
    have e7 : w.heap.size < w3.heap.size + 1 := by omega
    have e8 : w.heap.size + 1 < w3.heap.size + 1 := by omega
    go_wp2_with fail
    go_region_held3 (fun w' => w'.cell? ⟨w2.heap.size, 0, none⟩ = some (.int .i64 x) ∧ w'.cell? ⟨w2.heap.size, 1, none⟩ = some (.int .i64 y) ∧ w'.cell? ⟨w2.heap.size, 2, none⟩ = some (.int .i64 z) ∧ w'.cell? ⟨w2.heap.size + 1, 0, none⟩ = some (.int .i64 x') ∧ w'.cell? ⟨w2.heap.size + 1, 1, none⟩ = some (.int .i64 y') ∧ w'.cell? ⟨w2.heap.size + 1, 2, none⟩ = some (.int .i64 z')) (simp [*, World.cell?_alloc_some, World.cell?_setCell_far, World.cell?_alloc_past, nn_e2, nn_e3, nn_e4, nn_f2, nn_f3, nn_f4, nn_l2, nn_l3, nn_l4, nn_m3, nn_m4, nn_k4]) (first | (go_at_call 32; (with_reducible refine (sAmong w.heap.size (w.heap.size + 1 + 1) (0 + 40 + 2) [-1, 0, 500, 1000, 1001] _ 5 5 _ (by ((repeat (first | assumption | (refine Src.drew ?_) | (refine Src.drewN ?_ _) | (refine Src.other ?_ (by omega) (by omega) _ _) | (refine Src.alloc ?_ _))))) (row5K _ _ (by simp [go_sem, *]) (by simp [go_sem, *]) (by simp [go_sem, *]) (by simp [go_sem, *]) (by simp [go_sem, *])) (by intro o; first | (simp; done) | (simp; omega)) (by omega) (by omega) (by omega)).mono ?_); rintro e w' ⟨g, rfl, -, hs4, hbX⟩; have hcB := fun b o h1 h2 => But.cell hbX (b := b) o h1 h2; have hfB := fun b o h1 h2 => But.frozen hbX (b := b) o h1 h2; (try simp only [World.size_drew, World.cell?_drew, World.frozen?_drew, World.heap_drewN, World.cell?_drewN, World.frozen?_drewN] at hcB hfB)))
    all_goals have hbw4 := hbw3.trans (((show But (w.heap.size + 1 + 1) w3 _ from (by (repeat (first | exact But.refl _ _ | (refine But.drewN ?_ _) | (refine But.drew ?_) | (refine But.alloc ?_ _))))).trans hbX).below (by omega) hbw3.size)
    all_goals go_wp2
    all_goals have hcell : ∀ b o, b < w3.heap.size → b ≠ w.heap.size + 1 + 1 → w'.cell? ⟨b, o, none⟩ = w3.cell? ⟨b, o, none⟩ := fun b o h1 h2 => (But.cell hbX (b := b) o (by first | (simp; done) | (simp; omega) | omega) h2).trans (by first | rfl | exact World.cell?_alloc_past _ _ _ (by first | omega | (simp; done) | (simp; omega)))
    all_goals have hsix := six w' w.heap.size (w.heap.size + 1) (by omega) x y z x' y' z' ((hcell _ _ c0 b0).trans k1) ((hcell _ _ c0 b0).trans k2) ((hcell _ _ c0 b0).trans k3) ((hcell _ _ c1 b1).trans i1) ((hcell _ _ c1 b1).trans i2) ((hcell _ _ c1 b1).trans i3) _ rfl
    all_goals refine bodyPost_ret (v := .tuple #[.agg #[.int .i64 x, .int .i64 y, .int .i64 z], .agg #[.int .i64 x', .int .i64 y', .int .i64 z'], .int .i64 g]) ?_ rfl ⟨x, y, z, x', y', z', g, rfl, (((((hbw4.setCell (Nat.le_refl _) _).setCell (Nat.le_refl _) _).setCell (Nat.le_refl _) _).setCell (Nat.le_succ _) _).setCell (Nat.le_succ _) _).setCell (Nat.le_succ _) _⟩
    all_goals (obtain ⟨f0, f1, f2, f3, f4, f5⟩ := hsix)
    all_goals (generalize ((((((w'.setCell ⟨w.heap.size, 0, none⟩ (.int .i64 x)).setCell ⟨w.heap.size, 1, none⟩ (.int .i64 y)).setCell ⟨w.heap.size, 2, none⟩ (.int .i64 z)).setCell ⟨w.heap.size + 1, 0, none⟩ (.int .i64 x')).setCell ⟨w.heap.size + 1, 1, none⟩ (.int .i64 y')).setCell ⟨w.heap.size + 1, 2, none⟩ (.int .i64 z')) = F at f0 f1 f2 f3 f4 f5 ⊢)
    all_goals simp [results, Tryd.results17, go_sem, f0, f1, f2, f3, f4, f5]
end Go.Proofs.YtconhjidpoimaaaDoor
