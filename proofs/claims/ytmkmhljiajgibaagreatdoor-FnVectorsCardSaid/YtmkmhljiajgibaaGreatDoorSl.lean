/-
  Contracts of the functions on slices of integers.
-/
import Derived.Test.YtmkmhljiajgibaaGreatDoorRows
import Derived.WalkKit
import Derived.BigQuiet
import Derived.Deep.QuietTactic
import Derived.WalkLawsBesides
import Derived.Lib.Hide
import Derived.Test.YtmkmhljiajgibaaGreatDoorBase
namespace Go.Proofs.YtmkmhljiajgibaaGreatDoor
set_option linter.unusedVariables false
set_option linter.unusedSimpArgs false
open Go.RowKit

/-- A slice of integers in memory; where it is empty, nothing is said of its address. -/
def RowAt (w : World) (a : Option Addr) (n : Nat) (zs : List Int) : Prop := n = zs.length ∧ (n = 0 ∨ ∃ b o, a = some ⟨b, o, none⟩ ∧ ∀ i, i < n → w.cell? ⟨b, o + i, none⟩ = some (.int .i64 (zs.getD i 0)))
theorem cell_lt {w : World} {b o : Nat} {v : Value} (h : w.cell? ⟨b, o, none⟩ = some v) : b < w.heap.size := by
  rcases Nat.lt_or_ge b w.heap.size with g | g
  · exact g
  · simp [World.cell?, Array.getElem?_eq_none g] at h
theorem RowAt.below {w w' : World} {a : Option Addr} {n : Nat} {zs : List Int} (h : RowAt w a n zs) (hb : Below w.heap.size w w') : RowAt w' a n zs := by
  obtain ⟨h1, h2 | ⟨b, o, h2, h3⟩⟩ := h
  · exact ⟨h1, .inl h2⟩
  · refine ⟨h1, .inr ⟨b, o, h2, fun i hi => ?_⟩⟩
    rw [(bcell hb).1 b (o + i) (cell_lt (h3 i hi))]; exact h3 i hi
theorem RowAt.alloc {w : World} {a : Option Addr} {n : Nat} {zs : List Int} (h : RowAt w a n zs) (x : Obj) : RowAt (w.alloc x) a n zs := h.below ((Below.refl _ _).alloc (Nat.le_refl _) x)
theorem RowAt.drewN {w : World} {a : Option Addr} {n : Nat} {zs : List Int} (h : RowAt w a n zs) (m : Nat) : RowAt (w.drewN m) a n zs := h
theorem add_plain1 (b o i : Nat) : (⟨b, o, none⟩ : Addr).add i = ⟨b, o + i, none⟩ := by
  unfold Addr.add
  split
  · next h => subst h; rfl
  · rfl
/-- What came in, as such a slice. -/
theorem IsRow.rowAt {w : World} {a : Option Addr} {n c : Nat} {zs : List Int} (h : IsRow .i64 w a n c zs) : RowAt w a n (zs.take n) ∧ ∀ z ∈ zs.take n, (Lit.int .i64 z).wf = true := by
  rcases h with ⟨rfl, rfl, rfl, rfl⟩ | ⟨x, rfl, h1, h2, h3, h4, h5⟩
  · exact ⟨⟨rfl, .inl rfl⟩, by simp⟩
  · have hl : n = (zs.take n).length := by simp; omega
    refine ⟨⟨hl, ?_⟩, fun z hz => h5 z (List.mem_of_mem_take hz)⟩
    by_cases g : n = 0
    · exact .inl g
    · right
      obtain ⟨b, o, s⟩ := x
      have hs : s = none := by simpa [Addr.add] using World.cell?_spot (h4 0 (by omega))
      subst hs
      refine ⟨b, o, rfl, fun i hi => ?_⟩
      have h6 := h4 i (by omega)
      rw [add_plain1] at h6
      rw [h6]
      simp [List.getD, hi]
/-- Cells of a block that the call may write. -/
def OwnI (w : World) (g : Nat) (f : Nat → Int) (n : Nat) : Prop := ∀ j, j < n → w.cell? ⟨g, j, none⟩ = some (.int .i64 (f j)) ∧ w.frozen? ⟨g, j, none⟩ = false
theorem OwnI.set {w : World} {g n k : Nat} {f : Nat → Int} (h : OwnI w g f n) (hk : k < n) (x : Int) : OwnI (w.setCell ⟨g, k, none⟩ (.int .i64 x)) g (fun j => if j = k then x else f j) n := fun j hj => by
  obtain ⟨h1, h2⟩ := h j hj
  refine ⟨?_, (World.frozen?_setCell _ _ _ _).trans h2⟩
  show _ = some (Value.int .i64 (if j = k then x else f j))
  by_cases e : j = k
  · subst e; rw [World.cell?_setCell_same _ _ _ h1, if_pos rfl]
  · rw [if_neg e, ← h1]
    exact World.cell?_setCell_other _ _ _ _ (by simp <;> omega)
theorem OwnI.congr {w : World} {g n : Nat} {f f' : Nat → Int} (h : OwnI w g f n) (e : ∀ j, j < n → f j = f' j) : OwnI w g f' n := fun j hj => by rw [← e j hj]; exact h j hj
theorem OwnI.rowAt {w : World} {g : Nat} {zs : List Int} {f : Nat → Int} (h : OwnI w g f zs.length) (e : ∀ j, j < zs.length → f j = zs.getD j 0) : RowAt w (some ⟨g, 0, none⟩) zs.length zs :=
  ⟨rfl, .inr ⟨g, 0, rfl, fun i hi => by rw [Nat.zero_add, (h i hi).1, e i hi]⟩⟩
theorem infoInt64 : (Tryz.prog.info? 2).map (fun i => (i.zero, i.size, i.bytes)) = some (some (.int .i64 0), 1, 8) := by kernel_rfl
theorem mk64 (n : Nat) (w : World) (h : n ≤ 1048576) : (Instr.makeSlice 54 (.int .i64 n) (.int .i64 n)).run Tryz.prog w = .ok (.slice (some ⟨w.heap.size, 0, none⟩) n n) (w.alloc (.cells (madeCells #[.int .i64 0] n) 2)) := by
  obtain ⟨i0, hi, hz0, hz1, hz2⟩ := info_parts infoInt64
  have := run_make (P := Tryz.prog) w 54 2 i0 (.int .i64 0) Tryz.underlying54 hi hz0 .i64 .i64 n n (by omega) (Int.le_refl _) (by rw [hz2]; omega) (by omega)
  rw [this, hz1]
  simp [Value.cells]
theorem madeI (w : World) (n : Nat) : OwnI (w.alloc (.cells (madeCells #[.int .i64 0] n) 2)) w.heap.size (fun _ => 0) n := fun j hj => by
  refine ⟨?_, World.frozen?_alloc_at _ _ _ _ rfl⟩
  rw [World.cell?_alloc_new]
  simp [madeCells, hj, Nat.mod_one]
end Go.Proofs.YtmkmhljiajgibaaGreatDoor
