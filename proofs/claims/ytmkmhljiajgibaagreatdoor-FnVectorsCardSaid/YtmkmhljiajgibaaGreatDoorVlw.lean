/-
  The law on vectors.
-/
import Derived.Test.YtmkmhljiajgibaaGreatDoorMvf
import Derived.Test.YtmkmhljiajgibaaGreatDoorDir
import Derived.Test.YtmkmhljiajgibaaGreatDoorDrw2
import Derived.Test.YtmkmhljiajgibaaGreatDoorHelp
namespace Go.Proofs.YtmkmhljiajgibaaGreatDoor
set_option linter.unusedVariables false
set_option linter.unusedSimpArgs false
open Go.RowKit
attribute [local go_sem ↓] Go.wp_at_zero Go.wp_at_succ
attribute [local go_sem] nn_e2 nn_e3 nn_e4 nn_f2 nn_f3 nn_f4 nn_l2 nn_l3 nn_l4 nn_m3 nn_m4 nn_k4

theorem RowB.up {w : World} {B B' : Nat} {a : Option Addr} {n : Nat} {zs : List Int} (h : RowB w B a n zs) (hB : B ≤ B') : RowB w B' a n zs := by
  rcases h with h | ⟨b, o, h1, h2, h3⟩
  · exact .inl h
  · exact .inr ⟨b, o, h1, by omega, h3⟩
set_option maxRecDepth 100000 in
theorem facts_8s {W : World} (h : laidMetH Tryz.prog [("math/bits.deBruijn32tab", Rows.laid_math_bits_deBruijn32tab), ("math/bits.deBruijn64tab", Rows.laid_math_bits_deBruijn64tab), ("internal/strconv.uint64pow10", Rows.laid_internal_strconv_uint64pow10), ("unicode/utf8.acceptRanges", Rows.laid_unicode_utf8_acceptRanges), ("strconv.ErrRange", Rows.laid_strconv_ErrRange), ("strconv.ErrSyntax", Rows.laid_strconv_ErrSyntax), ("loop.example/g00955/impl.sines", Rows.laid_loop_example_g00955_impl_sines), ("unicode/utf8.first", Rows.laid_unicode_utf8_first)] W) : TabIn W ∧ ErrIn W ∧ SinesIn W := by
  have h' : laidMet Tryz.prog [("math/bits.deBruijn32tab", Rows.laid_math_bits_deBruijn32tab), ("math/bits.deBruijn64tab", Rows.laid_math_bits_deBruijn64tab), ("internal/strconv.uint64pow10", Rows.laid_internal_strconv_uint64pow10), ("unicode/utf8.acceptRanges", Rows.laid_unicode_utf8_acceptRanges), ("strconv.ErrRange", Rows.laid_strconv_ErrRange), ("strconv.ErrSyntax", Rows.laid_strconv_ErrSyntax), ("loop.example/g00955/impl.sines", Rows.laid_loop_example_g00955_impl_sines), ("unicode/utf8.first", Rows.laid_unicode_utf8_first)] W := h
  exact ⟨tabOf h'.tail.tail, errOf h'.tail.tail.tail.tail, sinesOf (rest := [("unicode/utf8.first", Rows.laid_unicode_utf8_first)]) h'.tail.tail.tail.tail.tail.tail⟩
theorem iDiE (l b X Y Z : Int) (w : World) (h1 : -9223372036854775808 ≤ l) (h2 : l ≤ 9223372036854775807) (hS : SinesIn w) (h : doX l b = X ∧ doY l b = Y ∧ doZ l b = Z ∧ doC b = 0) :
    Calls Tryz.prog 6 #[.int .i64 l, .int .i64 b] w fun e w' => e = .returned (.tuple #[.agg #[.int .i64 X, .int .i64 Y, .int .i64 Z], .int .i64 0]) ∧ Below w.heap.size w w' := by
  obtain ⟨rfl, rfl, rfl, h4⟩ := h
  have := iDirection l b w h1 h2 hS
  rw [h4] at this
  exact this
theorem iAgE (x y z A B : Int) (w : World) (hS : SinesIn w) (h : agX x y z = A ∧ agY x y z = B ∧ agC x y z = 0) :
    Calls Tryz.prog 7 #[.agg #[.int .i64 x, .int .i64 y, .int .i64 z]] w fun e w' => e = .returned (.tuple #[.int .i64 A, .int .i64 B, .int .i64 0]) ∧ Below w.heap.size w w' := by
  obtain ⟨rfl, rfl, h3⟩ := h
  have := iAngles x y z w hS
  rw [h3] at this
  exact this
theorem iLeE (x y z N : Int) (w : World) (h : leA x y z = N ∧ leC x y z = 0) :
    Calls Tryz.prog 8 #[.agg #[.int .i64 x, .int .i64 y, .int .i64 z]] w fun e w' => e = .returned (.tuple #[.int .i64 N, .int .i64 0]) ∧ Below w.heap.size w w' := by
  obtain ⟨rfl, h2⟩ := h
  have := iLengthOf x y z w
  rw [h2] at this
  exact this
theorem iBtE (a b D : Int) (w : World) (h1 : -9223372036854775808 ≤ a) (h2 : a ≤ 9223372036854775807) (h3 : -9223372036854775808 ≤ b) (h4 : b ≤ 9223372036854775807) (h : btw a b = D) :
    Calls Tryz.prog 9 #[.int .i64 a, .int .i64 b] w fun e w' => e = .returned (.int .i64 D) ∧ w = w' := by subst h; exact iBetween a b w h1 h2 h3 h4
theorem lAbE (x D : Int) (w : World) (h1 : -1000 ≤ x) (h2 : x ≤ 1000) (e : ab x = D) :
    Calls Tryz.prog 10 #[.int .i64 x] w fun e w' => e = .returned (.int .i64 D) ∧ w = w' := by subst e; exact lAbs x w (by omega) (by omega)
theorem iSeE (a b c x y z P K : Int) (w : World) (hS : SinesIn w) (h : seA a b c x y z = P ∧ seC a b c x y z = K) :
    Calls Tryz.prog 12 #[.agg #[.int .i64 a, .int .i64 b, .int .i64 c], .agg #[.int .i64 x, .int .i64 y, .int .i64 z]] w fun e w' => e = .returned (.tuple #[.int .i64 P, .int .i64 K]) ∧ Below w.heap.size w w' := by
  obtain ⟨rfl, rfl⟩ := h
  exact iSepar a b c x y z w hS
theorem iDtE (a b c x y z P K : Int) (w : World) (h : dtA a b c x y z = P ∧ dtC a b c x y z = K) :
    Calls Tryz.prog 13 #[.agg #[.int .i64 a, .int .i64 b, .int .i64 c], .agg #[.int .i64 x, .int .i64 y, .int .i64 z]] w fun e w' => e = .returned (.tuple #[.int .i64 P, .int .i64 K]) ∧ Below w.heap.size w w' := by
  obtain ⟨rfl, rfl⟩ := h
  exact iDotOf a b c x y z w
theorem iCoE (a b c K : Int) (w : World) (h : coC a b c a b c = K) :
    Calls Tryz.prog 14 #[.agg #[.int .i64 a, .int .i64 b, .int .i64 c], .agg #[.int .i64 a, .int .i64 b, .int .i64 c]] w fun e w' => e = .returned (.tuple #[.agg #[.int .i64 0, .int .i64 0, .int .i64 0], .int .i64 K]) ∧ Below w.heap.size w w' := by
  subst h
  have := iCrossOf a b c a b c w
  obtain ⟨h1, h2, h3⟩ := co_self a b c
  rw [h1, h2, h3] at this
  exact this
theorem iVtE (x y z : Int) (T : ByteArray) (w : World) (hT : TabIn w) (h : tx (vtT x y z) = T) :
    Calls Tryz.prog 16 #[.agg #[.int .i64 x, .int .i64 y, .int .i64 z]] w fun e w' => e = .returned (.string T) ∧ Below w.heap.size w w' := by
  subst h
  exact iVectorText x y z w hT
theorem iRvE (T : ByteArray) (x y z : Int) (w : World) (hs : T.size ≤ 1048576) (hT : TabIn w) (hE : ErrIn w) (hM : MaxIn w) (h : rvB T.data.toList = true ∧ rvV T.data.toList 0 = x ∧ rvV T.data.toList 1 = y ∧ rvV T.data.toList 2 = z) :
    Calls Tryz.prog 15 #[.string T] w fun e w' => e = .returned (.tuple #[.agg #[.int .i64 x, .int .i64 y, .int .i64 z], .bool true]) ∧ Below w.heap.size w w' := by
  obtain ⟨h1, h2, h3, h4⟩ := h
  have := iReadVec T w hs hT hE hM
  rw [h1, h2, h3, h4] at this
  exact this
theorem iRvF (T : ByteArray) (w : World) (hs : T.size ≤ 1048576) (hT : TabIn w) (hE : ErrIn w) (hM : MaxIn w) (h : rvB T.data.toList = false) :
    Calls Tryz.prog 15 #[.string T] w fun e w' => e = .returned (.tuple #[.agg #[.int .i64 0, .int .i64 0, .int .i64 0], .bool false]) ∧ Below w.heap.size w w' := by
  have := iReadVec T w hs hT hE hM
  rw [rv_no h, rv_no h, rv_no h, h] at this
  exact this
theorem sVvE (x y z : Int) (B : Bool) (w : World) (h : okV x y z = B) :
    Calls Tryz.prog 17 #[.agg #[.int .i64 x, .int .i64 y, .int .i64 z]] w fun e w' => e = .returned (.bool B) ∧ Below w.heap.size w w' := by
  subst h
  exact sValidVector x y z w
theorem six (w' : World) (A B : Nat) (hAB : ¬ A = B) (x y z p q r : Int) {a0 a1 a2 b0 b1 b2 : Value} (h0 : w'.cell? ⟨A, 0, none⟩ = some a0) (h1 : w'.cell? ⟨A, 1, none⟩ = some a1) (h2 : w'.cell? ⟨A, 2, none⟩ = some a2) (h3 : w'.cell? ⟨B, 0, none⟩ = some b0) (h4 : w'.cell? ⟨B, 1, none⟩ = some b1) (h5 : w'.cell? ⟨B, 2, none⟩ = some b2) :
    ∀ F, F = ((((((w'.setCell ⟨A, 0, none⟩ (.int .i64 x)).setCell ⟨A, 1, none⟩ (.int .i64 y)).setCell ⟨A, 2, none⟩ (.int .i64 z)).setCell ⟨B, 0, none⟩ (.int .i64 p)).setCell ⟨B, 1, none⟩ (.int .i64 q)).setCell ⟨B, 2, none⟩ (.int .i64 r)) →
      F.cell? ⟨A, 0, none⟩ = some (.int .i64 x) ∧ F.cell? ⟨A, 1, none⟩ = some (.int .i64 y) ∧ F.cell? ⟨A, 2, none⟩ = some (.int .i64 z) ∧ F.cell? ⟨B, 0, none⟩ = some (.int .i64 p) ∧ F.cell? ⟨B, 1, none⟩ = some (.int .i64 q) ∧ F.cell? ⟨B, 2, none⟩ = some (.int .i64 r) := by
  have o : ∀ {W : World} {a b : Nat} {i j : Nat} {v : Value}, (a ≠ b ∨ i ≠ j) → (W.setCell ⟨b, j, none⟩ v).cell? ⟨a, i, none⟩ = W.cell? ⟨a, i, none⟩ := fun h => World.cell?_setCell_other _ _ _ _ (by intro e; injection e with e1 e2; rcases h with h | h; exact h e1.symm; exact h e2.symm)
  have s : ∀ {W : World} {a i : Nat} {v u : Value}, W.cell? ⟨a, i, none⟩ = some u → (W.setCell ⟨a, i, none⟩ v).cell? ⟨a, i, none⟩ = some v := fun h => World.cell?_setCell_same _ _ _ h
  have hBA : ¬ B = A := fun e => hAB e.symm
  rintro F rfl
  refine ⟨?_, ?_, ?_, ?_, ?_, ?_⟩
  · rw [o (.inl hAB), o (.inl hAB), o (.inl hAB), o (.inr (by omega)), o (.inr (by omega)), s h0]
  · rw [o (.inl hAB), o (.inl hAB), o (.inl hAB), o (.inr (by omega)), s ((o (.inr (by omega))).trans h1)]
  · rw [o (.inl hAB), o (.inl hAB), o (.inl hAB), s ((o (.inr (by omega))).trans ((o (.inr (by omega))).trans h2))]
  · rw [o (.inr (by omega)), o (.inr (by omega)), s ((o (.inl hBA)).trans ((o (.inl hBA)).trans ((o (.inl hBA)).trans h3)))]
  · rw [o (.inr (by omega)), s ((o (.inr (by omega))).trans ((o (.inl hBA)).trans ((o (.inl hBA)).trans ((o (.inl hBA)).trans h4))))]
  · rw [s ((o (.inr (by omega))).trans ((o (.inr (by omega))).trans ((o (.inl hBA)).trans ((o (.inl hBA)).trans ((o (.inl hBA)).trans h5)))))]
def SepDrawn (w : World) (e : Ending) (w' : World) : Prop := ∃ x y z x' y' z' : Int, e = .returned (.tuple #[.agg #[.int .i64 x, .int .i64 y, .int .i64 z], .agg #[.int .i64 x', .int .i64 y', .int .i64 z']]) ∧ Below w.heap.size w w'
set_option maxHeartbeats 4000000 in
theorem sDrawSep (a0 : Option Addr) (n c : Nat) (zs : List Int) (w : World) (R : RowB w w.heap.size a0 n zs) (hn : n ≤ 1048576) :
    Calls Tryz.prog 11 #[.slice a0 n c] w (SepDrawn w) := by
  have RA := fun o p => RowB.low (B := w.heap.size) R (((Below.refl w.heap.size w).alloc (Nat.le_refl _) o).alloc (by simp) p)
  have HN := Lib.hid hn
  clear hn R
  go_enter Tryz.func11, Tryz.ntmps11
  go_wp2_with fail
  (with_reducible refine (sFromB _ _ _ _ w.heap.size _ (RA _ _) (by simp; omega) HN.out).mono ?_)
  rintro e w1 ⟨rfl, hsrc, hb1, hlt1⟩
  have hsrc : Src w1 w.heap.size (w.heap.size + 1 + 1) 0 := by simpa using hsrc
  have T1 := Lib.hid (((Tri.new w 0 0 0 26).alloc (.cells #[.int .i64 0, .int .i64 0, .int .i64 0] 26)).below hb1)
  have U1 : Hid (Tri w1 (w.heap.size + 1) 0 0 0) := by
    have h := Tri.new (w.alloc (.cells #[.int .i64 0, .int .i64 0, .int .i64 0] 26)) 0 0 0 26
    rw [World.size_alloc] at h
    exact Lib.hid (h.below hb1)
  have hbw : Below w.heap.size w w1 := (((Below.refl w.heap.size w).alloc (Nat.le_refl _) _).alloc (by simp) _).trans (hb1.mono (by simp; omega))
  have n0 : w.heap.size ≠ w.heap.size + 1 + 1 := by omega
  have n1 : w.heap.size + 1 ≠ w.heap.size + 1 + 1 := by omega
  have hz1 := hbw.size
  clear hb1 RA
  go_wp2_with fail
  (with_reducible refine (sTwo _ _ _ _ hsrc (by omega)).mono ?_)
  rintro e w2 ⟨x, y, z, x', y', z', rfl, hs2, hb2⟩
  have T2 := Lib.hid (T1.out.but hb2 n0)
  have U2 := Lib.hid (U1.out.but hb2 n1)
  have hbw2 : Below w.heap.size w w2 := hbw.trans (hb2.below (by omega) hbw.size)
  have hz2 := hs2.lt
  clear T1 U1 hb2 hbw hsrc hlt1
  obtain ⟨k1, k2, k3, k4, k5, k6⟩ := T2.out
  obtain ⟨i1, i2, i3, i4, i5, i6⟩ := U2.out
  clear T2 U2
  have c0 : w.heap.size < w2.heap.size := by omega
  have c1 : w.heap.size + 1 < w2.heap.size := by omega
  go_wp2
  have hsix := six w2 w.heap.size (w.heap.size + 1) (by omega) x y z x' y' z' k1 k2 k3 i1 i2 i3 _ rfl
  refine bodyPost_ret (v := .tuple #[.agg #[.int .i64 x, .int .i64 y, .int .i64 z], .agg #[.int .i64 x', .int .i64 y', .int .i64 z']]) ?_ rfl ⟨x, y, z, x', y', z', rfl, (((((hbw2.setCell (Nat.le_refl _) _).setCell (Nat.le_refl _) _).setCell (Nat.le_refl _) _).setCell (Nat.le_succ _) _).setCell (Nat.le_succ _) _).setCell (Nat.le_succ _) _⟩
  obtain ⟨f0, f1, f2, f3, f4, f5⟩ := hsix
  generalize ((((((w2.setCell ⟨w.heap.size, 0, none⟩ (.int .i64 x)).setCell ⟨w.heap.size, 1, none⟩ (.int .i64 y)).setCell ⟨w.heap.size, 2, none⟩ (.int .i64 z)).setCell ⟨w.heap.size + 1, 0, none⟩ (.int .i64 x')).setCell ⟨w.heap.size + 1, 1, none⟩ (.int .i64 y')).setCell ⟨w.heap.size + 1, 2, none⟩ (.int .i64 z')) = F at f0 f1 f2 f3 f4 f5 ⊢
  simp [results, Tryz.results11, go_sem, f0, f1, f2, f3, f4, f5]
end Go.Proofs.YtmkmhljiajgibaaGreatDoor
