/-
  Contracts of lists of numbers as texts.
-/
import Derived.Test.YtmkmhljiajgibaaGreatDoorTxt
import Derived.Test.YtmkmhljiajgibaaGreatDoorSl
namespace Go.Proofs.YtmkmhljiajgibaaGreatDoor
set_option linter.unusedVariables false
set_option linter.unusedSimpArgs false
open Go.RowKit
open Go.Lib (decDigits itoa)

/-- The first k numbers, commas between. -/
def ltN (zs : List Int) : Nat → List UInt8
  | 0 => []
  | k + 1 => (if k = 0 then [] else ltN zs k ++ [44]) ++ itoa (zs.getD k 0)
theorem ltN_0 (zs : List Int) : ltN zs 0 = [] := rfl
theorem ltN_1 (zs : List Int) : ltN zs 1 = itoa (zs.getD 0 0) := rfl
theorem ltN_s (zs : List Int) {k : Nat} (h : k ≠ 0) : ltN zs (k + 1) = ltN zs k ++ [44] ++ itoa (zs.getD k 0) := by simp [ltN, h]
def Fit (zs : List Int) (k : Nat) : Prop := ∀ j, j < k → -1000000000000 ≤ zs.getD j 0 ∧ zs.getD j 0 ≤ 1000000000000
def ltOk (zs : List Int) : Bool := decide (zs.length ≤ 64) && (List.range zs.length).all fun j => inB (zs.getD j 0) (-1000000000000) 1000000000000
theorem ltOk_t {zs : List Int} (h : ltOk zs = true) : zs.length ≤ 64 ∧ Fit zs zs.length := by
  unfold ltOk at h
  rw [Bool.and_eq_true] at h
  refine ⟨of_decide_eq_true h.1, fun j hj => ?_⟩
  have := List.all_eq_true.1 h.2 j (by simpa using hj)
  exact inB_t this
theorem ltOk_mk {zs : List Int} (h1 : zs.length ≤ 64) (h2 : Fit zs zs.length) : ltOk zs = true := by
  unfold ltOk
  rw [Bool.and_eq_true]
  exact ⟨decide_eq_true h1, List.all_eq_true.2 fun j hj => inB_mk (h2 j (by simpa using hj))⟩
theorem ltOk_big {zs : List Int} (h : 64 < zs.length) : ltOk zs = false := by
  cases c : ltOk zs
  · rfl
  · have := (ltOk_t c).1; omega
theorem ltOk_bad {zs : List Int} {j : Nat} (hj : j < zs.length) (h : ¬ (-1000000000000 ≤ zs.getD j 0 ∧ zs.getD j 0 ≤ 1000000000000)) : ltOk zs = false := by
  cases c : ltOk zs
  · rfl
  · exact absurd ((ltOk_t c).2 j hj) h
theorem Fit.step {zs : List Int} {k : Nat} (h : Fit zs k) (hz : -1000000000000 ≤ zs.getD k 0 ∧ zs.getD k 0 ≤ 1000000000000) : Fit zs (k + 1) := fun j hj => by
  by_cases e : j = k
  · subst e; exact hz
  · exact h j (by omega)
def ltL (zs : List Int) : List UInt8 := if zs.length = 0 then [45] else ltN zs zs.length
def ltT (zs : List Int) : List UInt8 := if ltOk zs then ltL zs else []
theorem ltT_no {zs : List Int} (h : ltOk zs = false) : ltT zs = [] := by unfold ltT; rw [h]; rfl
theorem ltT_yes {zs : List Int} (h : ltOk zs = true) : ltT zs = ltL zs := by unfold ltT; rw [h]; rfl
theorem ltN_len {zs : List Int} {k : Nat} (h : Fit zs k) : (ltN zs k).length ≤ 22 * k := by
  induction k with
  | zero => simp [ltN]
  | succ k ih =>
    have h1 := ih (fun j hj => h j (by omega))
    have h2 := itoa_len (n := zs.getD k 0) (by have := h k (by omega); omega) (by have := h k (by omega); omega)
    by_cases c : k = 0
    · subst c; rw [ltN_1]; omega
    · rw [ltN_s zs c]; simp only [List.length_append, List.length_cons, List.length_nil]; omega
theorem RowAt.cells {w : World} {a : Option Addr} {n : Nat} {zs : List Int} (h : RowAt w a n zs) (hn : 0 < n) : ∃ b o, a = some ⟨b, o, none⟩ ∧ ∀ i, i < n → w.cell? ⟨b, o + i, none⟩ = some (.int .i64 (zs.getD i 0)) := by
  obtain ⟨_, h | h⟩ := h
  · omega
  · exact h
/-- Cells of a block of texts that the call may write. -/
def OwnS (w : World) (g : Nat) (f : Nat → ByteArray) (n : Nat) : Prop := ∀ j, j < n → w.cell? ⟨g, j, none⟩ = some (.string (f j)) ∧ w.frozen? ⟨g, j, none⟩ = false
theorem OwnS.set {w : World} {g n k : Nat} {f : Nat → ByteArray} (h : OwnS w g f n) (hk : k < n) (x : ByteArray) : OwnS (w.setCell ⟨g, k, none⟩ (.string x)) g (fun j => if j = k then x else f j) n := fun j hj => by
  obtain ⟨h1, h2⟩ := h j hj
  refine ⟨?_, (World.frozen?_setCell _ _ _ _).trans h2⟩
  show _ = some (Value.string (if j = k then x else f j))
  by_cases e : j = k
  · subst e; rw [World.cell?_setCell_same _ _ _ h1, if_pos rfl]
  · rw [if_neg e, ← h1]
    exact World.cell?_setCell_other _ _ _ _ (by simp <;> omega)
theorem OwnS.congr {w : World} {g n : Nat} {f f' : Nat → ByteArray} (h : OwnS w g f n) (e : ∀ j, j < n → f j = f' j) : OwnS w g f' n := fun j hj => by rw [← e j hj]; exact h j hj
theorem OwnS.keep {w w' : World} {g n : Nat} {f : Nat → ByteArray} (h : OwnS w g f n) (hb : Below w.heap.size w w') : OwnS w' g f n := fun j hj => by
  obtain ⟨h1, h2⟩ := h j hj
  have hl := cell_lt h1
  exact ⟨((bcell hb).1 _ _ hl).trans h1, ((bcell hb).2 _ _ hl).trans h2⟩
theorem infoStr : (Tryz.prog.info? 9).map (fun i => (i.zero, i.size, i.bytes)) = some (some (.string ByteArray.empty), 1, 16) := by kernel_rfl
theorem mkStr (n : Nat) (w : World) (h : n ≤ 1048576) : (Instr.makeSlice 65 (.int .i64 n) (.int .i64 n)).run Tryz.prog w = .ok (.slice (some ⟨w.heap.size, 0, none⟩) n n) (w.alloc (.cells (madeCells #[.string ByteArray.empty] n) 9)) := by
  obtain ⟨i0, hi, hz0, hz1, hz2⟩ := info_parts infoStr
  have := run_make (P := Tryz.prog) w 65 9 i0 (.string ByteArray.empty) Tryz.underlying65 hi hz0 .i64 .i64 n n (by omega) (Int.le_refl _) (by rw [hz2]; omega) (by omega)
  rw [this, hz1]
  simp [Value.cells]
theorem madeS (w : World) (n : Nat) : OwnS (w.alloc (.cells (madeCells #[.string ByteArray.empty] n) 9)) w.heap.size (fun _ => ByteArray.empty) n := fun j hj => by
  refine ⟨?_, World.frozen?_alloc_at _ _ _ _ rfl⟩
  rw [World.cell?_alloc_new]
  simp [madeCells, hj, Nat.mod_one]
theorem join_snoc (xs : List (List UInt8)) (y sep : List UInt8) (h : xs ≠ []) : Lib.join (xs ++ [y]) sep = Lib.join xs sep ++ sep ++ y := by
  cases xs with
  | nil => exact absurd rfl h
  | cons x r => rw [List.cons_append, Lib.join_cons, Lib.join_cons]; simp [Lib.joinTail, List.append_assoc]
theorem join_ltN (zs : List Int) (k : Nat) : Lib.join ((List.range k).map fun j => itoa (zs.getD j 0)) [44] = ltN zs k := by
  induction k with
  | zero => rfl
  | succ k ih =>
    rw [List.range_succ, List.map_append]
    by_cases c : k = 0
    · subst c; simp [Lib.join_one, ltN_1]
    · rw [List.map_cons, List.map_nil, join_snoc _ _ _ (by simp; omega), ih, ltN_s zs c]
theorem shJoin (g n : Nat) (zs : List Int) (w : World) (hc : ∀ j, j < n → w.cell? ⟨g, j, none⟩ = some (.string (tx (itoa (zs.getD j 0))))) (h0 : 0 < n) (hn : n ≤ 64) (hF : Fit zs n) :
    Calls Tryz.prog 45 #[.slice (some ⟨g, 0, none⟩) n n, .string ⟨#[44]⟩] w fun e w' => e = .returned (.string (tx (ltN zs n))) ∧ Below w.heap.size w w' := by
  have hl : ((List.range n).map fun j => tx (itoa (zs.getD j 0))).length = n := by simp
  have hj : Lib.join (((List.range n).map fun j => tx (itoa (zs.getD j 0))).map (·.data.toList)) [44] = ltN zs n := by
    rw [← join_ltN, List.map_map]
    congr 1
  have h := Tryz.strings_Join g 0 n ((List.range n).map fun j => tx (itoa (zs.getD j 0))) ⟨#[44]⟩ w (fun j x hx => by
    have hjl : j < n := by have := (List.getElem?_eq_some_iff.1 hx).1; simpa using this
    simp [hjl] at hx
    rw [Nat.zero_add, hc j hjl, ← hx]; simp [List.getD]) (cell_lt (hc 0 h0)) (by rw [hl]; omega) (by rw [hl]; omega) (by rw [hj]; have := ltN_len hF; omega)
  rw [hl, hj] at h
  exact h
set_option maxRecDepth 100000 in
set_option maxHeartbeats 1000000 in
theorem iListText (a : Option Addr) (n c : Nat) (zs : List Int) (w : World) (H : RowAt w a n zs) (hT : TabIn w) :
    Calls Tryz.prog 32 #[.slice a n c] w fun e w' => e = .returned (.string (tx (ltT zs))) ∧ Below w.heap.size w w' := by
  have HL := Lib.hid H.1
  by_cases hbig : 64 < n
  · have E := Lib.hid (ltT_no (ltOk_big (zs := zs) (by rw [← HL.out]; exact hbig)))
    clear H hT
    go_enter Tryz.func32, Tryz.ntmps32
    go_wp2
    go_ret
    exact ⟨ret_s (by rw [E.out]; rfl), by (repeat (first | exact Below.refl _ _ | assumption | (refine Below.drewN ?_ _) | (refine Below.drew ?_) | (refine Below.alloc ?_ (by first | (simp; done) | (simp; omega) | omega) _) | (refine Below.setCell ?_ (by first | (simp; done) | (simp; omega) | omega) _) | (refine Below.trans ?_ (Below.mono (by assumption) (by first | (simp; done) | (simp; omega) | omega)))))⟩
  by_cases h0 : n = 0
  · have E : Hid (ltT zs = [45]) := by
      show _ = _
      rw [ltT_yes (ltOk_mk (by rw [← HL.out]; omega) (fun j hj => by rw [← HL.out] at hj; omega))]
      unfold ltL; rw [if_pos (by rw [← HL.out]; exact h0)]
    subst h0
    clear H hT
    go_enter Tryz.func32, Tryz.ntmps32
    go_wp2
    go_ret
    exact ⟨ret_s (by rw [E.out]; rfl), by (repeat (first | exact Below.refl _ _ | assumption | (refine Below.drewN ?_ _) | (refine Below.drew ?_) | (refine Below.alloc ?_ (by first | (simp; done) | (simp; omega) | omega) _) | (refine Below.setCell ?_ (by first | (simp; done) | (simp; omega) | omega) _) | (refine Below.trans ?_ (Below.mono (by assumption) (by first | (simp; done) | (simp; omega) | omega)))))⟩
  obtain ⟨b, o, rfl, hc⟩ := H.cells (by omega)
  have HC := Lib.hid hc
  have hblt := cell_lt (hc 0 (by omega))
  have HT := Lib.hid hT
  clear hc H hT
  have hmk := fun w => mkStr n w (by omega)
  have HM := Lib.hid (madeS w n)
  have hn64 : n ≤ 64 := by omega
  have hn0 : 0 < n := by omega
  have hn0b : ((n : Int) == 0) = false := by simp; omega
  have hn0c : decide ((64 : Int) < n) = false := by simp; omega
  clear h0 hbig
  go_enter Tryz.func32, Tryz.ntmps32
  go_wp2
  go_loopw [17] (fun i wr => ∃ k : Nat, k ≤ n ∧ i = .int .i64 k ∧ Below w.heap.size w wr ∧ w.heap.size < wr.heap.size ∧ Hid (Fit zs k) ∧ Hid (OwnS wr w.heap.size (fun j => if j < k then tx (itoa (zs.getD j 0)) else ByteArray.empty) n)) (fun i _ => n - (intOf i).toNat)
  case atStart => exact ⟨0, by omega, rfl, by (repeat (first | exact Below.refl _ _ | assumption | (refine Below.drewN ?_ _) | (refine Below.drew ?_) | (refine Below.alloc ?_ (by first | (simp; done) | (simp; omega) | omega) _) | (refine Below.setCell ?_ (by first | (simp; done) | (simp; omega) | omega) _) | (refine Below.trans ?_ (Below.mono (by assumption) (by first | (simp; done) | (simp; omega) | omega))))), by simp, (fun j hj => by omega), HM.out.congr (fun j _ => by simp)⟩
  case round =>
    obtain ⟨k, hk, rfl, hb, hz, HF, HO⟩ := hrel
    have hsr := hb.size
    by_cases hlt : k < n
    · have hcell : wr.cell? ⟨b, o + k, none⟩ = some (.int .i64 (zs.getD k 0)) := ((bcell hb).1 _ _ hblt).trans (HC.out k hlt)
      by_cases hzz : -1000000000000 ≤ zs.getD k 0 ∧ zs.getD k 0 ≤ 1000000000000
      · have HF' := Lib.hid (HF.out.step hzz)
        have hin := inB_mk hzz
        obtain ⟨Z, hZ⟩ : ∃ Z, Z = tx (itoa (zs.getD k 0)) := ⟨_, rfl⟩
        have HZ := Lib.hid hZ
        clear hZ
        have HG : Hid (∀ v, v = zs.getD k 0 → Z = tx (itoa v)) := fun v hv => by subst hv; exact HZ.out
        obtain ⟨z, hzd⟩ : ∃ z, zs.getD k 0 = z := ⟨_, rfl⟩
        rw [hzd] at hcell hin hzz
        have HZD := Lib.hid hzd.symm
        clear hzd
        have i0 : (0 : Int) ≤ k := by omega
        have i1 : (k : Int) < n := by omega
        have i2 : (k : Int).toNat = k := by omega
        go_wp2_with fail
        (with_reducible refine (iWithin _ _ _ _).mono ?_)
        rintro e w' ⟨rfl, rfl⟩
        go_wp2_with fail
        (with_reducible refine (iDecimal _ _ (by omega) (by omega) (HT.out.below hb)).mono ?_)
        rintro e w1 ⟨rfl, hbz⟩
        rw [← HG.out z HZD.out]
        have HO1 := Lib.hid (HO.out.keep hbz)
        obtain ⟨hdst, hfr⟩ := HO1.out k hlt
        have hs1 := hbz.size
        have hbw := hb.trans (hbz.mono hsr)
        clear hcell
        go_wp2
        go_roundw
        case rel => exact ⟨k + 1, by omega, by go_num, hbw.setCell (Nat.le_refl _) _, by simp; omega, HF', (HO1.out.set hlt _).congr (fun j _ => by
            by_cases e : j = k
            · subst e; rw [if_pos rfl, if_pos (by omega)]; exact HZ.out
            · rw [if_neg e]; by_cases g : j < k
              · rw [if_pos g, if_pos (by omega)]
              · rw [if_neg g, if_neg (by omega)])⟩
        case measure => simp [intOf]; omega
      · have E := Lib.hid (ltT_no (ltOk_bad (zs := zs) (j := k) (by rw [← HL.out]; exact hlt) hzz))
        have hin := inB_no hzz
        generalize zs.getD k 0 = z at *
        clear hzz
        go_wp2_with (go_at_call 19; (with_reducible refine (iWithin _ _ _ _).mono ?_); rintro e w' ⟨rfl, rfl⟩)
        go_ret
        exact ⟨ret_s (by rw [E.out]; rfl), by (repeat (first | exact Below.refl _ _ | assumption | (refine Below.drewN ?_ _) | (refine Below.drew ?_) | (refine Below.alloc ?_ (by first | (simp; done) | (simp; omega) | omega) _) | (refine Below.setCell ?_ (by first | (simp; done) | (simp; omega) | omega) _) | (refine Below.trans ?_ (Below.mono (by assumption) (by first | (simp; done) | (simp; omega) | omega)))))⟩
    · obtain rfl : k = n := by omega
      have E : Hid (ltT zs = ltN zs k) := by
        show _ = _
        rw [ltT_yes (ltOk_mk (by rw [← HL.out]; exact hn64) (by rw [← HL.out]; exact HF.out))]
        unfold ltL; rw [if_neg (by rw [← HL.out]; omega), ← HL.out]
      have HJ : Hid (∀ j, j < k → wr.cell? ⟨w.heap.size, j, none⟩ = some (.string (tx (itoa (zs.getD j 0))))) := fun j hj => by
        rw [(HO.out j hj).1]
        show some (Value.string (if j < k then _ else _)) = _
        rw [if_pos hj]
      go_wp2_with fail
      (with_reducible refine (shJoin _ _ zs _ HJ.out hn0 hn64 HF.out).mono ?_)
      rintro e w1 ⟨rfl, hbj⟩
      go_wp2
      go_ret
      exact ⟨ret_s (by rw [E.out]), by (repeat (first | exact Below.refl _ _ | assumption | (refine Below.drewN ?_ _) | (refine Below.drew ?_) | (refine Below.alloc ?_ (by first | (simp; done) | (simp; omega) | omega) _) | (refine Below.setCell ?_ (by first | (simp; done) | (simp; omega) | omega) _) | (refine Below.trans ?_ (Below.mono (by assumption) (by first | (simp; done) | (simp; omega) | omega)))))⟩
end Go.Proofs.YtmkmhljiajgibaaGreatDoor
