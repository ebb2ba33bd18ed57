/-
  The laws' own small functions: numbers that bytes choose.
-/
import Derived.Test.YtconhjidpoimaaaDoorSrc
namespace Go.Proofs.YtconhjidpoimaaaDoor
set_option linter.unusedVariables false
set_option linter.unusedSimpArgs false
open Go.RowKit

theorem RowB.below {w w' : World} {B : Nat} {a : Option Addr} {n : Nat} {zs : List Int} (h : RowB w B a n zs) (hB : B ≤ w.heap.size) (hb : Below w.heap.size w w') : RowB w' B a n zs := by
  rcases h with h | ⟨b, o, h1, h2, h3⟩
  · exact .inl h
  · exact .inr ⟨b, o, h1, h2, fun i hi => ⟨((bcell hb).1 b _ (by omega)).trans (h3 i hi).1, (h3 i hi).2⟩⟩
theorem RowB.but {w w' : World} {B q : Nat} {a : Option Addr} {n : Nat} {zs : List Int} (h : RowB w B a n zs) (hB : B ≤ w.heap.size) (hq : B ≤ q) (hb : But q w w') : RowB w' B a n zs := by
  rcases h with h | ⟨b, o, h1, h2, h3⟩
  · exact .inl h
  · exact .inr ⟨b, o, h1, h2, fun i hi => ⟨(hb.cell _ (by omega) (by omega)).trans (h3 i hi).1, (h3 i hi).2⟩⟩
theorem RowB.low {w w' : World} {B : Nat} {a : Option Addr} {n : Nat} {zs : List Int} (h : RowB w B a n zs) (hb : Below B w w') : RowB w' B a n zs := by
  rcases h with h | ⟨b, o, h1, h2, h3⟩
  · exact .inl h
  · exact .inr ⟨b, o, h1, h2, fun i hi => ⟨(hb.cell (p := ⟨b, o + i, none⟩) h2).trans (h3 i hi).1, (h3 i hi).2⟩⟩
theorem IsRow.rowB {w : World} {a : Option Addr} {n c : Nat} {zs : List Int} (R : IsRow .u8 w a n c zs) : RowB w w.heap.size a n zs := by
  rcases R with ⟨rfl, rfl, rfl, rfl⟩ | ⟨x, rfl, h1, h2, h3, h4, h5⟩
  · exact .inl rfl
  · by_cases g : n = 0
    · exact .inl g
    · right
      obtain ⟨b, o, s⟩ := x
      have hs : s = none := by simpa [Addr.add] using World.cell?_spot (h4 0 (by omega))
      subst hs
      have hb0 : b < w.heap.size := by have h6 := h4 0 (by omega); rw [add_plain1] at h6; exact cell_lt h6
      refine ⟨b, o, rfl, hb0, fun i hi => ?_⟩
      have h6 := h4 i (by omega)
      rw [add_plain1] at h6
      have hm : zs.getD i 0 ∈ zs := by
        have hj' : i < zs.length := by omega
        rw [show zs.getD i 0 = zs[i] by simp [List.getD, hj']]; exact List.getElem_mem hj'
      have h7 : 0 ≤ zs.getD i 0 ∧ zs.getD i 0 ≤ 255 := by
        have := h5 _ hm
        simpa [Lit.wf, IntKind.min, IntKind.max, IntKind.signed, IntKind.bits] using this
      exact ⟨h6, h7⟩
/-- From bytes of which the rest of the memory knows nothing more. -/
theorem RowB.src {w : World} {B : Nat} {a : Option Addr} {n c : Nat} {zs : List Int} (R : RowB w B a n zs) (hB : B ≤ w.heap.size) (hn : n ≤ 1048576) (t : TypeId) :
    Src (w.alloc (.cells #[.slice a n c, .int .i64 0, .int .u64 0] t)) B w.heap.size 0 := by
  refine ⟨a, n, c, zs, 0, 0, ?_, ?_, ?_, World.frozen?_alloc_at _ _ _ _ rfl, World.frozen?_alloc_at _ _ _ _ rfl, ?_, hn, Nat.le_refl _, hB⟩
  · rw [World.cell?_alloc_new]; rfl
  · rw [World.cell?_alloc_new]; rfl
  · rw [World.cell?_alloc_new]; rfl
  · rcases R with h | ⟨b, o, h1, h2, h3⟩
    · exact .inl h
    · exact .inr ⟨b, o, h1, h2, fun i hi => ⟨by rw [World.cell?_alloc_past _ _ _ (by omega)]; exact (h3 i hi).1, (h3 i hi).2⟩⟩
theorem ret_b {a b : Bool} (h : a = b) : Ending.returned (.bool a) = .returned (.bool b) := by rw [h]
/-- More bytes than the laws look at. -/
def tooLong (n : Nat) : Bool := decide (1048576 < n)
theorem tooLong_t {n : Nat} (h : 1048576 < n) : tooLong n = true := decide_eq_true h
theorem tooLong_f {n : Nat} (h : n ≤ 1048576) : tooLong n = false := decide_eq_false (by omega)
def Chosen (w : World) (P : Int → Prop) (e : Ending) (w' : World) : Prop := ∃ v : Int, e = .returned (.int .i64 v) ∧ P v ∧ w = w'
theorem sFromB (a : Option Addr) (n c : Nat) (zs : List Int) (B : Nat) (w : World) (R : RowB w B a n zs) (hB : B ≤ w.heap.size) (hn : n ≤ 1048576) :
    Calls Tryd.prog 30 #[.slice a n c] w fun e w' => e = .returned (.pointer (some ⟨w.heap.size, 0, none⟩)) ∧ Src w' B w.heap.size 0 ∧ Below w.heap.size w w' ∧ w.heap.size < w'.heap.size := by
  have K := Lib.hid (R.src (c := c) hB hn 68)
  clear R
  go_enter Tryd.func30, Tryd.ntmps30
  go_wp2
  go_ret
  exact ⟨rfl, K.out, by (repeat (first | exact Below.refl _ _ | assumption | (refine Below.drewN ?_ _) | (refine Below.drew ?_) | (refine Below.alloc ?_ (by first | (simp; done) | (simp; omega) | omega) _) | (refine Below.setCell ?_ (by first | (simp; done) | (simp; omega) | omega) _) | (refine Below.trans ?_ (Below.mono (by assumption) (by first | (simp; done) | (simp; omega) | omega))))), by simp⟩
theorem lB10Long (a : Option Addr) (n c : Nat) (w : World) : Calls Tryd.prog 11 #[.slice a n c] w fun e w' => e = .returned (.bool (tooLong n)) ∧ w = w' := by
  by_cases h : 1048576 < n
  · rw [tooLong_t h]
    go_enter Tryd.func11, Tryd.ntmps11
    go_wp2
    go_ret
    exact ⟨ret_b (by simp <;> omega), rfl⟩
  · rw [tooLong_f (by omega)]
    go_enter Tryd.func11, Tryd.ntmps11
    go_wp2
    go_ret
    exact ⟨ret_b (by simp <;> omega), rfl⟩
end Go.Proofs.YtconhjidpoimaaaDoor
