/-
  Contracts of cutting texts.
-/
import Derived.Test.YtghagmjpcebmjaaDoorRd
import Derived.Test.YtghagmjpcebmjaaDoorMsp
import Derived.Test.YtghagmjpcebmjaaDoorLt
namespace Go.Proofs.YtghagmjpcebmjaaDoor
set_option linter.unusedVariables false
set_option linter.unusedSimpArgs false
open Go.RowKit
open Go.Lib (decDigits itoa)

/-- The variable that the library's search reads. -/
def MaxIn (w : World) : Prop := ∃ m, w.cell? ⟨3, 0, none⟩ = some (.int .i64 m)
theorem MaxIn.below {w w' : World} (h : MaxIn w) (hb : Below w.heap.size w w') : MaxIn w' := by
  obtain ⟨m, h⟩ := h
  exact ⟨m, ((bcell hb).1 _ _ (cell_lt h)).trans h⟩
theorem bs_empty : (default : ByteArray) = ByteArray.empty := rfl
/-- What cutting leaves: pieces in a block. -/
def SplPost (w : World) (c : UInt8) (l : List UInt8) (e : Ending) (w' : World) : Prop := ∃ (bs : List ByteArray) (g cap : Nat), e = .returned (.slice (some ⟨g, 0, none⟩) bs.length cap) ∧ bs.map (·.data.toList) = spl c l ∧ w.heap.size ≤ g ∧ g < w'.heap.size ∧ (∀ j, j < bs.length → w'.cell? ⟨g, j, none⟩ = some (.string (bs.getD j ByteArray.empty))) ∧ Below w.heap.size w w'
theorem shSplit (s : ByteArray) (c : UInt8) (w : World) (hs : s.size ≤ 1048576) (hM : MaxIn w) :
    Calls Tryd.prog 63 #[.string s, .string ⟨#[c]⟩] w (SplPost w c s.data.toList) := by
  obtain ⟨m, hm⟩ := hM
  refine (Tryd.strings_Split s ⟨#[c]⟩ m w (by omega) hm (by show 1 ≤ 1; omega)).mono fun e w' ⟨he, hw⟩ => ?_
  have hl := Lib.splitB_all ⟨#[c]⟩ (by show 1 ≤ 1; omega) 0 _ s rfl
  refine ⟨Lib.splitB ⟨#[c]⟩ 0 (Lib.countB s ⟨#[c]⟩) s, w.heap.size, _, by rw [he, hl], splitB_spl c s, Nat.le_refl _, by rw [hw]; simp, ?_, by rw [hw]; exact (Below.refl _ _).alloc (Nat.le_refl _) _⟩
  intro j hj
  rw [hw, World.cell?_alloc_new]
  simp [List.getD, hj]
/-- Pieces that the call owns. -/
def OwnT (w : World) (B : Nat) (v : Value) (ps : List ByteArray) : Prop := w.ownsRow B 9 1 v ps.length (ps.map Value.string)
theorem OwnT.snoc {w : World} {B : Nat} {v : Value} {ps : List ByteArray} {x : ByteArray} (h : w.ownsRow B 9 1 v (ps.length + 1) (ps.map Value.string ++ [.string x])) : OwnT w B v (ps ++ [x]) := by
  unfold OwnT
  rw [List.length_append, List.map_append]
  exact h
theorem OwnT.nil (w : World) (B : Nat) (h : B ≤ w.heap.size) : OwnT (w.alloc (.cells #[] 9)) B (.slice (some ⟨w.heap.size, 0, none⟩) 0 0) [] := World.ownsRow_made w #[] 0 h (by decide) rfl
theorem OwnT.form {w : World} {B : Nat} {v : Value} {ps : List ByteArray} (h : OwnT w B v ps) (hn : 0 < ps.length) : ∃ g cap, v = .slice (some ⟨g, 0, none⟩) ps.length cap ∧ B ≤ g ∧ g < w.heap.size ∧ ∀ j, j < ps.length → w.cell? ⟨g, j, none⟩ = some (.string (ps.getD j ByteArray.empty)) := by
  obtain ⟨g, cap, e, h1, h2⟩ := World.ownsRow.form h hn
  refine ⟨g, cap, e, h1, h2, fun j hj => ?_⟩
  have hc := World.ownsRow.cells h (g := g) (by rw [e]; rfl) j (.string (ps.getD j ByteArray.empty)) (by simp [List.getD, hj])
  have hadd : (⟨g, 0, none⟩ : Addr).add j = ⟨g, j, none⟩ := by unfold Addr.add; split <;> simp_all
  rwa [hadd] at hc
theorem infoStr2 : (Tryd.prog.info? 9).map (fun i => (i.zero, i.size, i.bytes)) = some (some (.string ByteArray.empty), 1, 16) := by kernel_rfl
set_option maxRecDepth 100000 in
set_option maxHeartbeats 4000000 in
theorem sSplit (s : ByteArray) (c : UInt8) (C : Int) (w : World) (hs : s.size ≤ 1048576) (hC : C = (c.toNat : Int)) (hC1 : 0 ≤ C) (hC2 : C ≤ 255) :
    Calls Tryd.prog 62 #[.string s, .int .u8 C] w (SplPost w c s.data.toList) := by
  obtain ⟨i0', hi, hz0, hz1, hz2⟩ := info_parts infoStr2
  have nn0 := Lib.hid (OwnT.nil w w.heap.size (Nat.le_refl _))
  have HCC := Lib.hid hC
  clear hC
  go_enter Tryd.func62, Tryd.ntmps62
  go_wp2
  go_loopw [5, 6, 7] (fun v f i wr => ∃ (k F : Nat) (ps : List ByteArray), k ≤ s.size ∧ i = .int .i64 k ∧ f = .int .i64 F ∧ F ≤ k ∧ ps.length ≤ k ∧ Hid (Cut c s.data.toList F k (ps.map (·.data.toList))) ∧ Below w.heap.size w wr ∧ w.heap.size ≤ wr.heap.size ∧ Hid (OwnT wr w.heap.size v ps)) (fun _ _ i _ => s.size - (intOf i).toNat)
  case atStart => exact ⟨0, 0, [], by omega, rfl, rfl, by omega, by simp, Cut.start _ _, (Below.refl _ _).alloc (Nat.le_refl _) _, by simp, nn0⟩
  case round =>
    obtain ⟨k, F, ps, hk, rfl, rfl, hF, hps, HX, hbr, hsz, HO⟩ := hrel
    by_cases hlt : k < s.size
    · have e := bAt_eq s k hlt
      have HL : Hid (bAt s k = ((s.data.toList.getD k 0).toNat : Int)) := bAt_list s k
      have hb := bAt_bd s k
      by_cases g : bAt s k = C
      · have g1 : (bAt s k == C) = true := by simpa using g
        have HX' := Lib.hid (HX.out.hit (by rw [sz_list]; exact hlt) (by apply UInt8.toNat_inj.1; have := HL.out; have := HCC.out; omega))
        obtain ⟨X, hX⟩ : ∃ X, s.extract F k = X := ⟨_, rfl⟩
        have HXd : Hid (X.data.toList = (s.data.toList.drop F).take (k - F)) := by show _ = _; rw [← hX, Lib.extract_data]
        have j1 : (0 : Int) ≤ F := by omega
        have j2 : (F : Int) ≤ k := by omega
        have j3 : (k : Int) ≤ (s.size : Int) := by omega
        clear HX
        go_wp2_with (at_builtin; refine wpApp1 rfl (.tmp 20) (.tmp 25) _ rfl w.heap.size 9 i0' _ 16 Tryd.underlying24 hi hz0 hz1 hz2 rfl _ _ _ (by rfl) HO.out (.string X) rfl (by rfl) (by omega) (by unfold maxLen; omega) hsz ?_; intro v' w1 hown' hbel hgt)
        go_roundw
        case rel => exact ⟨k + 1, k + 1, ps ++ [X], by omega, by go_num, by go_num, by omega, by simp; omega, by show Cut _ _ _ _ _; rw [List.map_append, List.map_cons, List.map_nil, HXd.out]; exact HX'.out, hbr.trans hbel, by omega, OwnT.snoc hown'⟩
        case measure => simp [intOf]; omega
      · have g1 : (bAt s k == C) = false := beq_false_of_ne g
        have HX' := Lib.hid (HX.out.miss (by rw [sz_list]; exact hlt) (fun e => g (by have := HL.out; have := HCC.out; rw [e] at *; omega)))
        go_wp2
        go_roundw
        case rel => exact ⟨k + 1, F, ps, by omega, by go_num, rfl, by omega, by omega, HX', hbr, hsz, HO⟩
        case measure => simp [intOf]; omega
    · obtain rfl : k = s.size := by omega
      obtain ⟨X, hX⟩ : ∃ X, s.extract F s.size = X := ⟨_, rfl⟩
      have HXd : Hid (X.data.toList = s.data.toList.drop F) := by show _ = _; rw [← hX, Lib.extract_to_end]
      have j1 : (0 : Int) ≤ F := by omega
      have j2 : (F : Int) ≤ (s.size : Int) := by omega
      have HD : Hid ((ps ++ [X]).map (·.data.toList) = spl c s.data.toList) := by
        show _ = _
        rw [List.map_append, List.map_cons, List.map_nil, HXd.out]
        exact Cut.done (by rw [sz_list]; exact HX.out)
      go_wp2_with (at_builtin; refine wpApp1 rfl (.tmp 29) (.tmp 33) _ rfl w.heap.size 9 i0' _ 16 Tryd.underlying24 hi hz0 hz1 hz2 rfl _ _ _ (by rfl) HO.out (.string X) rfl (by rfl) (by omega) (by unfold maxLen; omega) hsz ?_; intro v' w1 hown' hbel hgt)
      obtain ⟨g, cap, rfl, h1, h2, h3⟩ := (OwnT.snoc hown').form (by simp)
      go_ret
      exact ⟨ps ++ [X], g, cap, rfl, HD.out, h1, h2, h3, hbr.trans hbel⟩
end Go.Proofs.YtghagmjpcebmjaaDoor
