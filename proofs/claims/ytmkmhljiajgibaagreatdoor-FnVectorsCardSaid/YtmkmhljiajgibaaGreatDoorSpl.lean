/-
  Contracts of cutting texts.
-/
import Derived.Test.YtmkmhljiajgibaaGreatDoorRd
import Derived.Test.YtmkmhljiajgibaaGreatDoorMsp
import Derived.Test.YtmkmhljiajgibaaGreatDoorLt
namespace Go.Proofs.YtmkmhljiajgibaaGreatDoor
set_option linter.unusedVariables false
set_option linter.unusedSimpArgs false
open Go.RowKit
open Go.Lib (decDigits itoa)

/-- The variable that the library's search reads. -/
def MaxIn (w : World) : Prop := ∃ m, w.cell? ⟨2, 0, none⟩ = some (.int .i64 m)
theorem MaxIn.below {w w' : World} (h : MaxIn w) (hb : Below w.heap.size w w') : MaxIn w' := by
  obtain ⟨m, h⟩ := h
  exact ⟨m, ((bcell hb).1 _ _ (cell_lt h)).trans h⟩
theorem bs_empty : (default : ByteArray) = ByteArray.empty := rfl
/-- What cutting leaves: pieces in a block. -/
def SplPost (w : World) (c : UInt8) (l : List UInt8) (e : Ending) (w' : World) : Prop := ∃ (bs : List ByteArray) (g cap : Nat), e = .returned (.slice (some ⟨g, 0, none⟩) bs.length cap) ∧ bs.map (·.data.toList) = spl c l ∧ w.heap.size ≤ g ∧ g < w'.heap.size ∧ (∀ j, j < bs.length → w'.cell? ⟨g, j, none⟩ = some (.string (bs.getD j ByteArray.empty))) ∧ Below w.heap.size w w'
theorem shSplit (s : ByteArray) (c : UInt8) (w : World) (hs : s.size ≤ 1048576) (hM : MaxIn w) :
    Calls Tryz.prog 42 #[.string s, .string ⟨#[c]⟩] w (SplPost w c s.data.toList) := by
  obtain ⟨m, hm⟩ := hM
  refine (Tryz.strings_Split s ⟨#[c]⟩ m w (by omega) hm (by show 1 ≤ 1; omega)).mono fun e w' ⟨he, hw⟩ => ?_
  have hl := Lib.splitB_all ⟨#[c]⟩ (by show 1 ≤ 1; omega) 0 _ s rfl
  refine ⟨Lib.splitB ⟨#[c]⟩ 0 (Lib.countB s ⟨#[c]⟩) s, w.heap.size, _, by rw [he, hl], splitB_spl c s, Nat.le_refl _, by rw [hw]; simp, ?_, by rw [hw]; exact (Below.refl _ _).alloc (Nat.le_refl _) _⟩
  intro j hj
  rw [hw, World.cell?_alloc_new]
  simp [List.getD, hj]
/-- Pieces that the call owns. -/
def OwnT (w : World) (B : Nat) (v : Value) (ps : List ByteArray) : Prop := w.ownsRow B 9 1 v ps.length (ps.map Value.string)
theorem OwnT.snoc {w : World} {B : Nat} {v : Value} {ps : List ByteArray} {x : ByteArray} (h : w.ownsRow B 9 1 v (ps.length + 1) (ps.map Value.string ++ [.string x])) : OwnT w B v (ps ++ [x]) := by
  unfold OwnT
  rw [List.length_append, List.map_append]
  exact h
theorem OwnT.nil (w : World) (B : Nat) (h : B ≤ w.heap.size) : OwnT (w.alloc (.cells #[] 9)) B (.slice (some ⟨w.heap.size, 0, none⟩) 0 0) [] := World.ownsRow_made w #[] 0 h (by decide) rfl
theorem OwnT.form {w : World} {B : Nat} {v : Value} {ps : List ByteArray} (h : OwnT w B v ps) (hn : 0 < ps.length) : ∃ g cap, v = .slice (some ⟨g, 0, none⟩) ps.length cap ∧ B ≤ g ∧ g < w.heap.size ∧ ∀ j, j < ps.length → w.cell? ⟨g, j, none⟩ = some (.string (ps.getD j ByteArray.empty)) := by
  obtain ⟨g, cap, e, h1, h2⟩ := World.ownsRow.form h hn
  refine ⟨g, cap, e, h1, h2, fun j hj => ?_⟩
  have hc := World.ownsRow.cells h (g := g) (by rw [e]; rfl) j (.string (ps.getD j ByteArray.empty)) (by simp [List.getD, hj])
  have hadd : (⟨g, 0, none⟩ : Addr).add j = ⟨g, j, none⟩ := by unfold Addr.add; split <;> simp_all
  rwa [hadd] at hc
end Go.Proofs.YtmkmhljiajgibaaGreatDoor
