/-
  Drawn turns and drawn pairs with a share.
-/
import Derived.Test.YtconhjidpoimaaaDoorDrw2
namespace Go.Proofs.YtconhjidpoimaaaDoor
set_option linter.unusedVariables false
set_option linter.unusedSimpArgs false
open Go.RowKit
attribute [local go_sem ↓] Go.wp_at_zero Go.wp_at_succ
attribute [local go_sem] nn_e2 nn_e3 nn_e4 nn_f2 nn_f3 nn_f4 nn_l2 nn_l3 nn_l4 nn_m3 nn_m4 nn_k4

theorem sAmongAt (B q m : Nat) (zs : List Int) (k : Nat) (cs : Array Value) (t : TypeId) (w : World) (H : Nat) (hH : w.heap.size = H) (S : Src w B q m) (hcs : (zs.map fun z => Value.int .i64 z).toArray = cs) (hk : zs.length = k) (hm : m ≤ 900000) (h1 : 1 ≤ k) (h2 : k ≤ 1000000) :
    Calls Tryd.prog 32 #[.pointer (some ⟨q, 0, none⟩), .slice (some ⟨H, 0, none⟩) k k] (w.alloc (.cells cs t)) (Drawn B q (m + 2) w fun v => v ∈ zs) := by
  subst hH
  exact sAmongNew B q m zs k cs t w S hcs hk hm h1 h2
def RotDrawn (w : World) (e : Ending) (w' : World) : Prop := ∃ x y z a g : Int, e = .returned (.tuple #[.agg #[.int .i64 x, .int .i64 y, .int .i64 z], .int .i64 a, .int .i64 g]) ∧ VB x y z ∧ (-9223372036854775808 ≤ g ∧ g ≤ 9223372036854775807) ∧ Below w.heap.size w w'
set_option maxHeartbeats 8000000 in
theorem sDrawRot (a0 : Option Addr) (n c : Nat) (zs : List Int) (w : World) (R : RowB w w.heap.size a0 n zs) (hn : n ≤ 1048576) :
    Calls Tryd.prog 12 #[.slice a0 n c] w (RotDrawn w) := by
  have RA := fun o => R.below (Nat.le_refl _) ((Below.refl w.heap.size w).alloc (Nat.le_refl _) o)
  have HN := Lib.hid hn
  clear hn R
  go_enter Tryd.func12, Tryd.ntmps12
  go_wp2_with fail
  (with_reducible refine (sFromB _ _ _ _ w.heap.size _ (RA _) (by simp) HN.out).mono ?_)
  rintro e w1 ⟨rfl, hsrc, hb1, hlt1⟩
  have hsrc : Src w1 w.heap.size (w.heap.size + 1) 0 := by simpa using hsrc
  have T1 := Lib.hid ((Tri.new w 0 0 0 _).below hb1)
  have q1 : w.heap.size < (w.alloc (.cells #[.int .i64 0, .int .i64 0, .int .i64 0] 26)).heap.size := by simp
  have hbw : Below w.heap.size w w1 := ((Below.refl w.heap.size w).alloc (Nat.le_refl _) _).trans (hb1.mono (Nat.le_of_lt q1))
  have hne : w.heap.size ≠ w.heap.size + 1 := by omega
  have hz1 := hbw.size
  clear hb1 RA q1
  go_wp2_with fail
  (with_reducible refine (sBent _ _ _ _ hsrc (by omega)).mono ?_)
  rintro e w2 ⟨x, y, z, rfl, hvb, hs2, hb2⟩
  have T2 := Lib.hid (T1.out.but hb2 hne)
  have hbw2 : Below w.heap.size w w2 := hbw.trans (hb2.below (by omega) hbw.size)
  have HV := Lib.hid hvb
  have gq : w2.heap.size ≠ w.heap.size + 1 := by have := hs2.lt; omega
  have hz2 := hs2.lt
  clear T1 hb2 hbw hsrc hlt1 hvb
  go_wp2_with fail
  (with_reducible refine (sAmongAt _ _ _ [1, 2, 3, 1, 2, 3, 0, 4] _ _ _ _ (w2.heap.size + 1) (by simp) (hs2.alloc _) (by simp) (by simp) (by omega) (by omega) (by omega)).mono ?_)
  rintro e w3 ⟨v, rfl, -, hs3, hb3⟩
  have T3 := Lib.hid ((T2.out.alloc _).but hb3 hne)
  have M3 := Lib.hid ((Tri.new w2 x y z _).but hb3 gq)
  have hbw3 : Below w.heap.size w w3 := (hbw2.alloc (by omega) _).trans (hb3.below (by omega) (by simp; omega))
  have hz3 := hs3.lt
  have hz4 : w2.heap.size < w3.heap.size := by have := hb3.size; simp at this; omega
  clear T2 hb3 hbw2 hs2
  obtain ⟨k1, k2, k3, k4, k5, k6⟩ := T3.out
  obtain ⟨j1, j2, j3, j4, j5, j6⟩ := M3.out
  clear T3 M3
  have c0 : w.heap.size < w3.heap.size := by omega
  have b0 : ¬ w.heap.size = w.heap.size + 1 := hne
  have b2 : ¬ w2.heap.size = w.heap.size + 1 := gq
  have d0 : ¬ w2.heap.size = w.heap.size := by omega
  have d0' : ¬ w.heap.size = w2.heap.size := by omega
  go_wp2_with fail
  go_region_held3 (fun w' => w'.cell? ⟨w2.heap.size, 0, none⟩ = some (.int .i64 x) ∧ w'.cell? ⟨w2.heap.size, 1, none⟩ = some (.int .i64 y) ∧ w'.cell? ⟨w2.heap.size, 2, none⟩ = some (.int .i64 z)) (simp [*, World.cell?_alloc_some, World.cell?_setCell_far, World.cell?_alloc_past, nn_e2, nn_e3, nn_e4, nn_f2, nn_f3, nn_f4, nn_l2, nn_l3, nn_l4, nn_m3, nn_m4, nn_k4]) (first | (go_at_call 33; (with_reducible refine (sWide w.heap.size (w.heap.size + 1) (0 + 14 + 2) _ (by ((repeat (first | assumption | (refine Src.drew ?_) | (refine Src.drewN ?_ _) | (refine Src.other ?_ (by omega) (by omega) _ _) | (refine Src.alloc ?_ _))))) (by omega)).mono ?_); rintro e w' ⟨g, rfl, hg, hs4, hbX⟩; have hcB := fun b o h1 h2 => But.cell hbX (b := b) o h1 h2; have hfB := fun b o h1 h2 => But.frozen hbX (b := b) o h1 h2; (try simp only [World.size_drew, World.cell?_drew, World.frozen?_drew, World.heap_drewN, World.cell?_drewN, World.frozen?_drewN] at hcB hfB)))
  all_goals have hbw4 := hbw3.trans (((But.drewN (But.refl (w.heap.size + 1) w3) _).trans hbX).below (by omega) hbw3.size)
  all_goals go_wp2
  all_goals exact bodyPost_ret (v := .tuple #[.agg #[.int .i64 x, .int .i64 y, .int .i64 z], .int .i64 v, .int .i64 g]) (by simp [results, Tryd.results12, go_sem, *]) rfl ⟨x, y, z, v, g, rfl, HV.out, hg, by (repeat (first | exact Below.refl _ _ | assumption | (refine Below.drewN ?_ _) | (refine Below.drew ?_) | (refine Below.alloc ?_ (by first | (simp; done) | (simp; omega) | omega) _) | (refine Below.setCell ?_ (by first | (simp; done) | (simp; omega) | omega) _) | (refine Below.trans ?_ (Below.mono (by assumption) (by first | (simp; done) | (simp; omega) | omega)))))⟩
end Go.Proofs.YtconhjidpoimaaaDoor
