/-
  The laws' own small functions: numbers that bytes choose.
-/
import Derived.Test.YtmkmhljiajgibaaGreatDoorSrc
namespace Go.Proofs.YtmkmhljiajgibaaGreatDoor
set_option linter.unusedVariables false
set_option linter.unusedSimpArgs false
open Go.RowKit

theorem RowB.below {w w' : World} {B : Nat} {a : Option Addr} {n : Nat} {zs : List Int} (h : RowB w B a n zs) (hB : B ≤ w.heap.size) (hb : Below w.heap.size w w') : RowB w' B a n zs := by
  rcases h with h | ⟨b, o, h1, h2, h3⟩
  · exact .inl h
  · exact .inr ⟨b, o, h1, h2, fun i hi => ⟨((bcell hb).1 b _ (by omega)).trans (h3 i hi).1, (h3 i hi).2⟩⟩
theorem RowB.but {w w' : World} {B q : Nat} {a : Option Addr} {n : Nat} {zs : List Int} (h : RowB w B a n zs) (hB : B ≤ w.heap.size) (hq : B ≤ q) (hb : But q w w') : RowB w' B a n zs := by
  rcases h with h | ⟨b, o, h1, h2, h3⟩
  · exact .inl h
  · exact .inr ⟨b, o, h1, h2, fun i hi => ⟨(hb.cell _ (by omega) (by omega)).trans (h3 i hi).1, (h3 i hi).2⟩⟩
theorem RowB.low {w w' : World} {B : Nat} {a : Option Addr} {n : Nat} {zs : List Int} (h : RowB w B a n zs) (hb : Below B w w') : RowB w' B a n zs := by
  rcases h with h | ⟨b, o, h1, h2, h3⟩
  · exact .inl h
  · exact .inr ⟨b, o, h1, h2, fun i hi => ⟨(hb.cell (p := ⟨b, o + i, none⟩) h2).trans (h3 i hi).1, (h3 i hi).2⟩⟩
theorem IsRow.rowB {w : World} {a : Option Addr} {n c : Nat} {zs : List Int} (R : IsRow .u8 w a n c zs) : RowB w w.heap.size a n zs := by
  rcases R with ⟨rfl, rfl, rfl, rfl⟩ | ⟨x, rfl, h1, h2, h3, h4, h5⟩
  · exact .inl rfl
  · by_cases g : n = 0
    · exact .inl g
    · right
      obtain ⟨b, o, s⟩ := x
      have hs : s = none := by simpa [Addr.add] using World.cell?_spot (h4 0 (by omega))
      subst hs
      have hb0 : b < w.heap.size := by have h6 := h4 0 (by omega); rw [add_plain1] at h6; exact cell_lt h6
      refine ⟨b, o, rfl, hb0, fun i hi => ?_⟩
      have h6 := h4 i (by omega)
      rw [add_plain1] at h6
      have hm : zs.getD i 0 ∈ zs := by
        have hj' : i < zs.length := by omega
        rw [show zs.getD i 0 = zs[i] by simp [List.getD, hj']]; exact List.getElem_mem hj'
      have h7 : 0 ≤ zs.getD i 0 ∧ zs.getD i 0 ≤ 255 := by
        have := h5 _ hm
        simpa [Lit.wf, IntKind.min, IntKind.max, IntKind.signed, IntKind.bits] using this
      exact ⟨h6, h7⟩
/-- From bytes of which the rest of the memory knows nothing more. -/
theorem RowB.src {w : World} {B : Nat} {a : Option Addr} {n c : Nat} {zs : List Int} (R : RowB w B a n zs) (hB : B ≤ w.heap.size) (hn : n ≤ 1048576) (t : TypeId) :
    Src (w.alloc (.cells #[.slice a n c, .int .i64 0, .int .u64 0] t)) B w.heap.size 0 := by
  refine ⟨a, n, c, zs, 0, 0, ?_, ?_, ?_, World.frozen?_alloc_at _ _ _ _ rfl, World.frozen?_alloc_at _ _ _ _ rfl, ?_, hn, Nat.le_refl _, hB⟩
  · rw [World.cell?_alloc_new]; rfl
  · rw [World.cell?_alloc_new]; rfl
  · rw [World.cell?_alloc_new]; rfl
  · rcases R with h | ⟨b, o, h1, h2, h3⟩
    · exact .inl h
    · exact .inr ⟨b, o, h1, h2, fun i hi => ⟨by rw [World.cell?_alloc_past _ _ _ (by omega)]; exact (h3 i hi).1, (h3 i hi).2⟩⟩
theorem ret_b {a b : Bool} (h : a = b) : Ending.returned (.bool a) = .returned (.bool b) := by rw [h]
/-- More bytes than the laws look at. -/
def tooLong (n : Nat) : Bool := decide (1048576 < n)
theorem tooLong_t {n : Nat} (h : 1048576 < n) : tooLong n = true := decide_eq_true h
theorem tooLong_f {n : Nat} (h : n ≤ 1048576) : tooLong n = false := decide_eq_false (by omega)
def Chosen (w : World) (P : Int → Prop) (e : Ending) (w' : World) : Prop := ∃ v : Int, e = .returned (.int .i64 v) ∧ P v ∧ w = w'
theorem sFromB (a : Option Addr) (n c : Nat) (zs : List Int) (B : Nat) (w : World) (R : RowB w B a n zs) (hB : B ≤ w.heap.size) (hn : n ≤ 1048576) :
    Calls Tryz.prog 26 #[.slice a n c] w fun e w' => e = .returned (.pointer (some ⟨w.heap.size, 0, none⟩)) ∧ Src w' B w.heap.size 0 ∧ Below w.heap.size w w' ∧ w.heap.size < w'.heap.size := by
  have K := Lib.hid (R.src (c := c) hB hn 63)
  clear R
  go_enter Tryz.func26, Tryz.ntmps26
  go_wp2
  go_ret
  exact ⟨rfl, K.out, by (repeat (first | exact Below.refl _ _ | assumption | (refine Below.drewN ?_ _) | (refine Below.drew ?_) | (refine Below.alloc ?_ (by first | (simp; done) | (simp; omega) | omega) _) | (refine Below.setCell ?_ (by first | (simp; done) | (simp; omega) | omega) _) | (refine Below.trans ?_ (Below.mono (by assumption) (by first | (simp; done) | (simp; omega) | omega))))), by simp⟩
theorem lB10Long (a : Option Addr) (n c : Nat) (w : World) : Calls Tryz.prog 4 #[.slice a n c] w fun e w' => e = .returned (.bool (tooLong n)) ∧ w = w' := by
  by_cases h : 1048576 < n
  · rw [tooLong_t h]
    go_enter Tryz.func4, Tryz.ntmps4
    go_wp2
    go_ret
    exact ⟨ret_b (by simp <;> omega), rfl⟩
  · rw [tooLong_f (by omega)]
    go_enter Tryz.func4, Tryz.ntmps4
    go_wp2
    go_ret
    exact ⟨ret_b (by simp <;> omega), rfl⟩
theorem lB10AtIn (b o n c k : Nat) (z m : Int) (w : World) (hk : k < n) (h2 : 2 ≤ m) (h3 : m ≤ 1000000000) (hc : w.cell? ⟨b, o + k, none⟩ = some (.int .u8 z)) (z1 : 0 ≤ z) (z2 : z ≤ 255) (hn : n ≤ 1048576) :
    Calls Tryz.prog 18 #[.slice (some ⟨b, o, none⟩) n c, .int .i64 k, .int .i64 m] w (Chosen w fun v => 0 ≤ v ∧ v < m) := by
  have i1 : (k : Int) < n := by omega
  have i2 : (k : Int).toNat = k := by omega
  go_enter Tryz.func18, Tryz.ntmps18
  go_wp2
  go_ret
  exact ⟨_, rfl, ⟨Int.emod_nonneg _ (by omega), Int.emod_lt_of_pos _ (by omega)⟩, rfl⟩
theorem lB10AtOut (a : Option Addr) (n c k : Nat) (m : Int) (w : World) (hk : n ≤ k) (h2 : 2 ≤ m) (h3 : m ≤ 1000000000) (hk2 : k ≤ 1000000) :
    Calls Tryz.prog 18 #[.slice a n c, .int .i64 k, .int .i64 m] w (Chosen w fun v => 0 ≤ v ∧ v < m) := by
  have i1 : ¬ (k : Int) < n := by omega
  go_enter Tryz.func18, Tryz.ntmps18
  go_wp2
  go_ret
  exact ⟨_, rfl, ⟨Int.emod_nonneg _ (by omega), Int.emod_lt_of_pos _ (by omega)⟩, rfl⟩
theorem lB10At (a : Option Addr) (n c : Nat) (zs : List Int) (B : Nat) (k m : Int) (w : World) (R : RowB w B a n zs) (hk : 0 ≤ k) (hk2 : k ≤ 1000000) (h2 : 2 ≤ m) (h3 : m ≤ 1000000000) (hn : n ≤ 1048576) :
    Calls Tryz.prog 18 #[.slice a n c, .int .i64 k, .int .i64 m] w (Chosen w fun v => 0 ≤ v ∧ v < m) := by
  obtain ⟨j, rfl⟩ := Int.eq_ofNat_of_zero_le hk
  by_cases h : j < n
  · rcases R with h0 | ⟨b, o, rfl, _, h5⟩
    · omega
    · exact lB10AtIn b o n c j _ m w h h2 h3 (h5 j h).1 (h5 j h).2.1 (h5 j h).2.2 hn
  · exact lB10AtOut a n c j m w (by omega) h2 h3 (by omega)
theorem lB10Wide (a : Option Addr) (n c : Nat) (zs : List Int) (B : Nat) (k m : Int) (w : World) (R : RowB w B a n zs) (hk : 0 ≤ k) (hk2 : k ≤ 100000) (h2 : 2 ≤ m) (h3 : m ≤ 1000000000) (hn : n ≤ 1048576) :
    Calls Tryz.prog 5 #[.slice a n c, .int .i64 k, .int .i64 m] w (Chosen w fun v => 0 ≤ v ∧ v < m) := by
  go_enter Tryz.func5, Tryz.ntmps5
  go_wp2_with (go_at_call 18; (with_reducible refine (lB10At _ _ _ _ _ _ _ _ R (by omega) (by omega) (by omega) (by omega) hn).mono ?_); rintro e w' ⟨v, rfl, ⟨hv1, hv2⟩, rfl⟩)
  go_ret
  exact ⟨_, rfl, ⟨Int.emod_nonneg _ (by omega), Int.emod_lt_of_pos _ (by omega)⟩, rfl⟩
end Go.Proofs.YtmkmhljiajgibaaGreatDoor
