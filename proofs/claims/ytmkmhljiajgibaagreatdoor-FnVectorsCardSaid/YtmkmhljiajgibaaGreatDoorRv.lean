/-
  Contracts of reading vectors.
-/
import Derived.Test.YtmkmhljiajgibaaGreatDoorRl
namespace Go.Proofs.YtmkmhljiajgibaaGreatDoor
set_option linter.unusedVariables false
set_option linter.unusedSimpArgs false
open Go.RowKit
open Go.Lib (decDigits itoa)

/-- What a text says of a vector. -/
noncomputable def rvB (l : List UInt8) : Bool := rlB l && decide ((rlV l).length = 3) && okV ((rlV l).getD 0 0) ((rlV l).getD 1 0) ((rlV l).getD 2 0)
noncomputable def rvV (l : List UInt8) (j : Nat) : Int := if rvB l then (rlV l).getD j 0 else 0
theorem rv_no {l : List UInt8} (h : rvB l = false) (j : Nat) : rvV l j = 0 := by unfold rvV; rw [h]; rfl
theorem rv_yes {l : List UInt8} (h : rvB l = true) (j : Nat) : rvV l j = (rlV l).getD j 0 := by unfold rvV; rw [h]; rfl
theorem rv_bad {l : List UInt8} (h : rlB l = false) : rvB l = false := by unfold rvB; rw [h]; rfl
theorem rv_len {l : List UInt8} (h : (rlV l).length ≠ 3) : rvB l = false := by unfold rvB; rw [decide_eq_false h]; simp
theorem rv_okF {l : List UInt8} (h : okV ((rlV l).getD 0 0) ((rlV l).getD 1 0) ((rlV l).getD 2 0) = false) : rvB l = false := by unfold rvB; rw [h]; simp
theorem rv_mk {l : List UInt8} (h1 : rlB l = true) (h2 : (rlV l).length = 3) (h3 : okV ((rlV l).getD 0 0) ((rlV l).getD 1 0) ((rlV l).getD 2 0) = true) : rvB l = true := by unfold rvB; rw [h1, h3, decide_eq_true h2]; rfl
noncomputable def rvR (l : List UInt8) : Value := .tuple #[.agg #[.int .i64 (rvV l 0), .int .i64 (rvV l 1), .int .i64 (rvV l 2)], .bool (rvB l)]
theorem rvR_no {l : List UInt8} (h : rvB l = false) : rvR l = .tuple #[.agg #[.int .i64 0, .int .i64 0, .int .i64 0], .bool false] := by unfold rvR; rw [rv_no h, rv_no h, rv_no h, h]
theorem rvR_yes {l : List UInt8} (h : rvB l = true) : rvR l = .tuple #[.agg #[.int .i64 ((rlV l).getD 0 0), .int .i64 ((rlV l).getD 1 0), .int .i64 ((rlV l).getD 2 0)], .bool true] := by unfold rvR; rw [rv_yes h, rv_yes h, rv_yes h, h]
set_option maxHeartbeats 1000000 in
theorem iReadVector (s : ByteArray) (w : World) (hs : s.size ≤ 1048576) (hT : TabIn w) (hE : ErrIn w) (hM : MaxIn w) :
    Calls Tryz.prog 15 #[.string s] w fun e w' => e = .returned (rvR s.data.toList) ∧ Below w.heap.size w w' := by
  have HL64 : Hid ((rlV s.data.toList).length ≤ 64) := rlV_len _
  have HT := Lib.hid hT
  have HE := Lib.hid hE
  have HM := Lib.hid hM
  clear hT hE hM
  go_enter Tryz.func15, Tryz.ntmps15
  go_wp2_with fail
  (with_reducible refine (iReadList _ _ hs (HT.out.below (by (repeat (first | exact Below.refl _ _ | assumption | (refine Below.drewN ?_ _) | (refine Below.drew ?_) | (refine Below.alloc ?_ (by first | (simp; done) | (simp; omega) | omega) _) | (refine Below.setCell ?_ (by first | (simp; done) | (simp; omega) | omega) _) | (refine Below.trans ?_ (Below.mono (by assumption) (by first | (simp; done) | (simp; omega) | omega))))))) (HE.out.below (by (repeat (first | exact Below.refl _ _ | assumption | (refine Below.drewN ?_ _) | (refine Below.drew ?_) | (refine Below.alloc ?_ (by first | (simp; done) | (simp; omega) | omega) _) | (refine Below.setCell ?_ (by first | (simp; done) | (simp; omega) | omega) _) | (refine Below.trans ?_ (Below.mono (by assumption) (by first | (simp; done) | (simp; omega) | omega))))))) (HM.out.below (by (repeat (first | exact Below.refl _ _ | assumption | (refine Below.drewN ?_ _) | (refine Below.drew ?_) | (refine Below.alloc ?_ (by first | (simp; done) | (simp; omega) | omega) _) | (refine Below.setCell ?_ (by first | (simp; done) | (simp; omega) | omega) _) | (refine Below.trans ?_ (Below.mono (by assumption) (by first | (simp; done) | (simp; omega) | omega)))))))).mono ?_)
  rintro e w1 ⟨a, n, c, rfl, hr, hb⟩
  have HR := Lib.hid hr
  clear hr
  have HL := Lib.hid (HR.out.1)
  have hs := hb.size
  (try simp at hs)
  have hz0_1 : w.heap.size < w1.heap.size := by omega
  have hz0_2 : w.heap.size < w1.heap.size + 1 := by omega
  have hz0_3 : ¬ w.heap.size = w1.heap.size := by omega
  have hz0_4 : ¬ w1.heap.size = w.heap.size := by omega
  obtain ⟨hc, hf⟩ := bcell hb
  have BQ : Hid (Below w.heap.size w w1) := by show Below _ _ _; (repeat (first | exact Below.refl _ _ | assumption | (refine Below.drewN ?_ _) | (refine Below.drew ?_) | (refine Below.alloc ?_ (by first | (simp; done) | (simp; omega) | omega) _) | (refine Below.setCell ?_ (by first | (simp; done) | (simp; omega) | omega) _) | (refine Below.trans ?_ (Below.mono (by assumption) (by first | (simp; done) | (simp; omega) | omega)))))
  cases hB : rlB s.data.toList
  · have E := Lib.hid (rvR_no (rv_bad hB))
    go_wp2
    exact bodyPost_ret (v := .tuple #[.agg #[.int .i64 0, .int .i64 0, .int .i64 0], .bool false]) (by simp [results, Tryz.results15, go_sem, *]) rfl ⟨by rw [E.out], by have := BQ.out; (repeat (first | exact Below.refl _ _ | assumption | (refine Below.drewN ?_ _) | (refine Below.drew ?_) | (refine Below.alloc ?_ (by first | (simp; done) | (simp; omega) | omega) _) | (refine Below.setCell ?_ (by first | (simp; done) | (simp; omega) | omega) _) | (refine Below.trans ?_ (Below.mono (by assumption) (by first | (simp; done) | (simp; omega) | omega)))))⟩
  by_cases h3 : n = 3
  · subst h3
    obtain ⟨-, h0 | ⟨g, rfl, hg1, hg2, HO⟩⟩ := HR.out
    · omega
    have c0 := (HO 0 (by omega)).1
    have c1 := (HO 1 (by omega)).1
    have c2 := (HO 2 (by omega)).1
    clear HO
    have hg3 : g < w1.heap.size + 1 := by omega
    have hg4 : ¬ g = w1.heap.size := by omega
    have hg5 : ¬ w1.heap.size = g := by omega
    have k0 : w1.cell? ⟨w.heap.size, 0, none⟩ = some (.int .i64 0) := by rw [hc _ _ (by simp)]; simp [World.cell?_alloc_new]
    have k1 : w1.cell? ⟨w.heap.size, 1, none⟩ = some (.int .i64 0) := by rw [hc _ _ (by simp)]; simp [World.cell?_alloc_new]
    have k2 : w1.cell? ⟨w.heap.size, 2, none⟩ = some (.int .i64 0) := by rw [hc _ _ (by simp)]; simp [World.cell?_alloc_new]
    have E1 := Lib.hid (fun h => rvR_yes (l := s.data.toList) (rv_mk hB HL.out.symm h))
    have E0 := Lib.hid (fun h => rvR_no (l := s.data.toList) (rv_okF h))
    clear hB
    obtain ⟨x, hx⟩ : ∃ x, (rlV s.data.toList).getD 0 0 = x := ⟨_, rfl⟩
    obtain ⟨y, hy⟩ : ∃ x, (rlV s.data.toList).getD 1 0 = x := ⟨_, rfl⟩
    obtain ⟨z, hz⟩ : ∃ x, (rlV s.data.toList).getD 2 0 = x := ⟨_, rfl⟩
    rw [hx, hy, hz] at E0 E1
    replace c0 : w1.cell? ⟨g, 0, none⟩ = some (.int .i64 x) := by rw [← hx]; exact c0
    replace c1 : w1.cell? ⟨g, 1, none⟩ = some (.int .i64 y) := by rw [← hy]; exact c1
    replace c2 : w1.cell? ⟨g, 2, none⟩ = some (.int .i64 z) := by rw [← hz]; exact c2
    clear hx hy hz
    cases hv : okV x y z
    · have E := Lib.hid (E0.out hv)
      clear E0 E1
      go_wp2
      go_region_held3 (fun w' => w'.cell? ⟨g, 0, none⟩ = some (.int .i64 x) ∧ w'.cell? ⟨g, 1, none⟩ = some (.int .i64 y) ∧ w'.cell? ⟨g, 2, none⟩ = some (.int .i64 z) ∧ w'.cell? ⟨w.heap.size, 0, none⟩ = some (.int .i64 0) ∧ w'.cell? ⟨w.heap.size, 1, none⟩ = some (.int .i64 0) ∧ w'.cell? ⟨w.heap.size, 2, none⟩ = some (.int .i64 0)) (simp [*, World.cell?_alloc_some, World.cell?_setCell_far, World.cell?_alloc_past]) (fail)
      go_wp2_with (first | (go_at_call 33; (with_reducible refine (sOkV _ _ _ _).mono ?_); rintro e w' ⟨rfl, hb⟩; have hs := hb.size; (try simp at hs); (try have hz : w.heap.size < w'.heap.size := by omega); (try have hy : w.heap.size < w'.heap.size + 1 := by omega); (try have hyy : w.heap.size < w'.heap.size + 1 + 1 := by omega); (try have hz1 : w.heap.size + 1 < w'.heap.size := by omega); (try have hn : ¬ w'.heap.size = w.heap.size := by omega); (try have hn1 : ¬ w'.heap.size = w.heap.size + 1 := by omega); (try have hz2 : w.heap.size + 1 + 1 < w'.heap.size := by omega); (try have hq := Nat.lt_of_lt_of_le (by assumption) hs); (try have hq := Nat.lt_of_succ_le hs); obtain ⟨hc, hf⟩ := bcell hb; (try simp only [World.size_drew, World.cell?_drew, World.frozen?_drew, World.heap_drewN, World.cell?_drewN, World.frozen?_drewN] at hc hf)) | (go_at_call 21; (with_reducible refine (iValidVector _ _ _ _).mono ?_); rintro e w' ⟨rfl, hb⟩; have hs := hb.size; (try simp at hs); (try have hz : w.heap.size < w'.heap.size := by omega); (try have hy : w.heap.size < w'.heap.size + 1 := by omega); (try have hyy : w.heap.size < w'.heap.size + 1 + 1 := by omega); (try have hz1 : w.heap.size + 1 < w'.heap.size := by omega); (try have hn : ¬ w'.heap.size = w.heap.size := by omega); (try have hn1 : ¬ w'.heap.size = w.heap.size + 1 := by omega); (try have hz2 : w.heap.size + 1 + 1 < w'.heap.size := by omega); (try have hq := Nat.lt_of_lt_of_le (by assumption) hs); (try have hq := Nat.lt_of_succ_le hs); obtain ⟨hc, hf⟩ := bcell hb; (try simp only [World.size_drew, World.cell?_drew, World.frozen?_drew, World.heap_drewN, World.cell?_drewN, World.frozen?_drewN] at hc hf)))
      exact bodyPost_ret (v := .tuple #[.agg #[.int .i64 0, .int .i64 0, .int .i64 0], .bool false]) (by simp [results, Tryz.results15, go_sem, *]) rfl ⟨by rw [E.out], by have := BQ.out; (repeat (first | exact Below.refl _ _ | assumption | (refine Below.drewN ?_ _) | (refine Below.drew ?_) | (refine Below.alloc ?_ (by first | (simp; done) | (simp; omega) | omega) _) | (refine Below.setCell ?_ (by first | (simp; done) | (simp; omega) | omega) _) | (refine Below.trans ?_ (Below.mono (by assumption) (by first | (simp; done) | (simp; omega) | omega)))))⟩
    · have E := Lib.hid (E1.out hv)
      clear E0 E1
      go_wp2
      go_region_held3 (fun w' => w'.cell? ⟨g, 0, none⟩ = some (.int .i64 x) ∧ w'.cell? ⟨g, 1, none⟩ = some (.int .i64 y) ∧ w'.cell? ⟨g, 2, none⟩ = some (.int .i64 z) ∧ w'.cell? ⟨w.heap.size, 0, none⟩ = some (.int .i64 0) ∧ w'.cell? ⟨w.heap.size, 1, none⟩ = some (.int .i64 0) ∧ w'.cell? ⟨w.heap.size, 2, none⟩ = some (.int .i64 0)) (simp [*, World.cell?_alloc_some, World.cell?_setCell_far, World.cell?_alloc_past]) (fail)
      go_wp2_with (first | (go_at_call 33; (with_reducible refine (sOkV _ _ _ _).mono ?_); rintro e w' ⟨rfl, hb⟩; have hs := hb.size; (try simp at hs); (try have hz : w.heap.size < w'.heap.size := by omega); (try have hy : w.heap.size < w'.heap.size + 1 := by omega); (try have hyy : w.heap.size < w'.heap.size + 1 + 1 := by omega); (try have hz1 : w.heap.size + 1 < w'.heap.size := by omega); (try have hn : ¬ w'.heap.size = w.heap.size := by omega); (try have hn1 : ¬ w'.heap.size = w.heap.size + 1 := by omega); (try have hz2 : w.heap.size + 1 + 1 < w'.heap.size := by omega); (try have hq := Nat.lt_of_lt_of_le (by assumption) hs); (try have hq := Nat.lt_of_succ_le hs); obtain ⟨hc, hf⟩ := bcell hb; (try simp only [World.size_drew, World.cell?_drew, World.frozen?_drew, World.heap_drewN, World.cell?_drewN, World.frozen?_drewN] at hc hf)) | (go_at_call 21; (with_reducible refine (iValidVector _ _ _ _).mono ?_); rintro e w' ⟨rfl, hb⟩; have hs := hb.size; (try simp at hs); (try have hz : w.heap.size < w'.heap.size := by omega); (try have hy : w.heap.size < w'.heap.size + 1 := by omega); (try have hyy : w.heap.size < w'.heap.size + 1 + 1 := by omega); (try have hz1 : w.heap.size + 1 < w'.heap.size := by omega); (try have hn : ¬ w'.heap.size = w.heap.size := by omega); (try have hn1 : ¬ w'.heap.size = w.heap.size + 1 := by omega); (try have hz2 : w.heap.size + 1 + 1 < w'.heap.size := by omega); (try have hq := Nat.lt_of_lt_of_le (by assumption) hs); (try have hq := Nat.lt_of_succ_le hs); obtain ⟨hc, hf⟩ := bcell hb; (try simp only [World.size_drew, World.cell?_drew, World.frozen?_drew, World.heap_drewN, World.cell?_drewN, World.frozen?_drewN] at hc hf)))
      exact bodyPost_ret (v := .tuple #[.agg #[.int .i64 x, .int .i64 y, .int .i64 z], .bool true]) (by simp [results, Tryz.results15, go_sem, *]) rfl ⟨by rw [E.out], by have := BQ.out; (repeat (first | exact Below.refl _ _ | assumption | (refine Below.drewN ?_ _) | (refine Below.drew ?_) | (refine Below.alloc ?_ (by first | (simp; done) | (simp; omega) | omega) _) | (refine Below.setCell ?_ (by first | (simp; done) | (simp; omega) | omega) _) | (refine Below.trans ?_ (Below.mono (by assumption) (by first | (simp; done) | (simp; omega) | omega)))))⟩
  · have E := Lib.hid (rvR_no (l := s.data.toList) (rv_len (by rw [← HL.out]; exact h3)))
    have h3b : ((n : Int) == 3) = false := beq_false_of_ne (by omega)
    go_wp2
    exact bodyPost_ret (v := .tuple #[.agg #[.int .i64 0, .int .i64 0, .int .i64 0], .bool false]) (by simp [results, Tryz.results15, go_sem, *]) rfl ⟨by rw [E.out], by have := BQ.out; (repeat (first | exact Below.refl _ _ | assumption | (refine Below.drewN ?_ _) | (refine Below.drew ?_) | (refine Below.alloc ?_ (by first | (simp; done) | (simp; omega) | omega) _) | (refine Below.setCell ?_ (by first | (simp; done) | (simp; omega) | omega) _) | (refine Below.trans ?_ (Below.mono (by assumption) (by first | (simp; done) | (simp; omega) | omega)))))⟩
theorem iReadVec (s : ByteArray) (w : World) (hs : s.size ≤ 1048576) (hT : TabIn w) (hE : ErrIn w) (hM : MaxIn w) :
    Calls Tryz.prog 15 #[.string s] w fun e w' => e = .returned (.tuple #[.agg #[.int .i64 (rvV s.data.toList 0), .int .i64 (rvV s.data.toList 1), .int .i64 (rvV s.data.toList 2)], .bool (rvB s.data.toList)]) ∧ Below w.heap.size w w' := iReadVector s w hs hT hE hM
end Go.Proofs.YtmkmhljiajgibaaGreatDoor
