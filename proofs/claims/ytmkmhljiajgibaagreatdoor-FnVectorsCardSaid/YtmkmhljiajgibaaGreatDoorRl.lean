/-
  Contracts of reading lists of numbers.
-/
import Derived.Test.YtmkmhljiajgibaaGreatDoorSpl
import Derived.Test.YtmkmhljiajgibaaGreatDoorVt
import Derived.Laws.OwnMore
namespace Go.Proofs.YtmkmhljiajgibaaGreatDoor
set_option linter.unusedVariables false
set_option linter.unusedSimpArgs false
open Go.RowKit
open Go.Lib (decDigits itoa)

theorem ownsRow_below {w w' : World} {B : Nat} {e : TypeId} {size : Nat} {v : Value} {n : Nat} {xs : List Value} (h : w.ownsRow B e size v n xs) (hb : Below w.heap.size w w') : w'.ownsRow B e size v n xs := by
  refine ⟨h.1, ?_⟩
  rcases h.2 with hn | ⟨g, cap, cur, rfl, h1, h2, rest⟩
  · exact .inl hn
  · refine .inr ⟨g, cap, cur, rfl, h1, ?_, rest⟩
    rw [hb.block g (Array.getElem?_eq_some_iff.1 h2).1]
    exact h2
theorem OwnI.keep {w w' : World} {g n : Nat} {f : Nat → Int} (h : OwnI w g f n) (hb : Below w.heap.size w w') : OwnI w' g f n := fun j hj => by
  obtain ⟨h1, h2⟩ := h j hj
  have hl := cell_lt h1
  exact ⟨((bcell hb).1 _ _ hl).trans h1, ((bcell hb).2 _ _ hl).trans h2⟩
/-- A row of numbers from block B on, which may be written; where it is empty nothing is said of its address. -/
def RowO (w : World) (B : Nat) (a : Option Addr) (n : Nat) (zs : List Int) : Prop := n = zs.length ∧ (n = 0 ∨ ∃ g, a = some ⟨g, 0, none⟩ ∧ B ≤ g ∧ g < w.heap.size ∧ OwnI w g (fun j => zs.getD j 0) n)
theorem RowO.rowAt {w : World} {B : Nat} {a : Option Addr} {n : Nat} {zs : List Int} (h : RowO w B a n zs) : RowAt w a n zs := by
  obtain ⟨h1, h2 | ⟨g, h2, -, -, h3⟩⟩ := h
  · exact ⟨h1, .inl h2⟩
  · exact ⟨h1, .inr ⟨g, 0, h2, fun i hi => by rw [Nat.zero_add]; exact (h3 i hi).1⟩⟩
theorem RowO.keep {w w' : World} {B : Nat} {a : Option Addr} {n : Nat} {zs : List Int} (h : RowO w B a n zs) (hb : Below w.heap.size w w') : RowO w' B a n zs := by
  obtain ⟨h1, h2 | ⟨g, h2, h3, h4, h5⟩⟩ := h
  · exact ⟨h1, .inl h2⟩
  · exact ⟨h1, .inr ⟨g, h2, h3, Nat.lt_of_lt_of_le h4 hb.size, h5.keep hb⟩⟩
theorem RowO.mono {w : World} {B B' : Nat} {a : Option Addr} {n : Nat} {zs : List Int} (h : RowO w B a n zs) (hB : B' ≤ B) : RowO w B' a n zs := by
  obtain ⟨h1, h2 | ⟨g, h2, h3, h4⟩⟩ := h
  · exact ⟨h1, .inl h2⟩
  · exact ⟨h1, .inr ⟨g, h2, by omega, h4⟩⟩
theorem RowO.drewN {w : World} {B : Nat} {a : Option Addr} {n : Nat} {zs : List Int} (h : RowO w B a n zs) (m : Nat) : RowO (w.drewN m) B a n zs := h
theorem RowO.nil (w : World) (B : Nat) (a : Option Addr) : RowO w B a 0 [] := ⟨rfl, .inl rfl⟩
/-- Numbers that the call owns. -/
def OwnL (w : World) (B : Nat) (v : Value) (zs : List Int) : Prop := w.ownsRow B 2 1 v zs.length (zs.map (Value.int .i64))
theorem OwnL.snoc {w : World} {B : Nat} {v : Value} {zs : List Int} {x : Int} (h : w.ownsRow B 2 1 v (zs.length + 1) (zs.map (Value.int .i64) ++ [.int .i64 x])) : OwnL w B v (zs ++ [x]) := by
  unfold OwnL
  rw [List.length_append, List.map_append]
  exact h
theorem OwnL.made (w : World) (B : Nat) (h : B ≤ w.heap.size) : OwnL (w.alloc (.cells #[] 2)) B (.slice (some ⟨w.heap.size, 0, none⟩) 0 0) [] := World.ownsRow_made w #[] 0 h (by decide) rfl
theorem OwnL.none (w : World) (B : Nat) : OwnL w B (.slice none 0 0) [] := World.ownsRow_nil w B _ 1
theorem OwnL.row {w : World} {B : Nat} {v : Value} {zs : List Int} (h : OwnL w B v zs) : ∃ a cap, v = .slice a zs.length cap ∧ RowO w B a zs.length zs := by
  rcases h.2 with ⟨hv, h0⟩ | ⟨g, cap, cur, hv, h1, h2, -⟩
  · exact ⟨_, 0, by rw [hv, h0], by rfl, .inl h0⟩
  · refine ⟨_, cap, hv, rfl, .inr ⟨g, rfl, h1, (Array.getElem?_eq_some_iff.1 h2).1, fun j hj => ?_⟩⟩
    subst hv
    exact ⟨by rw [World.ownsRow.cellAt h j (by omega)]; simp [List.getD, hj], World.ownsRow.frozenAt h j⟩
/-- What reading a list leaves. -/
def GotL (w : World) (zs : List Int) (b : Bool) (e : Ending) (w' : World) : Prop := ∃ a n cap, e = .returned (.tuple #[.slice a n cap, .bool b]) ∧ RowO w' w.heap.size a n zs ∧ Below w.heap.size w w'
theorem ret_lb {v : Value} {b b' : Bool} (h : b = b') : Ending.returned (.tuple #[v, .bool b]) = .returned (.tuple #[v, .bool b']) := by rw [h]
/-- While the numbers of the pieces are gathered. -/
def Got (ps : List (List UInt8)) (k : Nat) (zs : List Int) : Prop := zs = (ps.take k).map rdV ∧ ∀ j, j < k → okP (ps.getD j []) = true
theorem Got.start (ps : List (List UInt8)) : Got ps 0 [] := ⟨by simp, fun j hj => by omega⟩
theorem Got.step {ps : List (List UInt8)} {k : Nat} {zs : List Int} {p : List UInt8} (h : Got ps k zs) (hk : k < ps.length) (e : ps.getD k [] = p) (ho : okP p = true) : Got ps (k + 1) (zs ++ [rdV p]) := by
  refine ⟨?_, fun j hj => ?_⟩
  · rw [List.take_add_one, List.getElem?_eq_getElem hk, List.map_append, ← h.1, ← e]
    simp [List.getD, hk]
  · by_cases g : j = k
    · subst g; rw [e]; exact ho
    · exact h.2 j (by omega)
theorem Got.done {l : List UInt8} {zs : List Int} (h0 : l ≠ [45]) (h : Got (spl 44 l) (spl 44 l).length zs) (h1 : (spl 44 l).length ≤ 64) : rlB l = true ∧ rlV l = zs := by
  have := rl_good h0 h1 (fun p hp => by
    obtain ⟨j, hj, e⟩ := List.mem_iff_getElem.1 hp
    have := h.2 j hj
    rw [show (spl 44 l).getD j [] = p by simp [List.getD, hj, e]] at this
    exact this)
  exact ⟨this.1, by rw [this.2, h.1, List.take_length]⟩
theorem Got.bad {l p : List UInt8} {k : Nat} (h0 : l ≠ [45]) (hk : k < (spl 44 l).length) (e : (spl 44 l).getD k [] = p) (ho : okP p = false) : rlB l = false ∧ rlV l = [] :=
  rl_bad h0 (p := p) (by rw [← e, show (spl 44 l).getD k [] = (spl 44 l)[k] by simp [List.getD, hk]]; exact List.getElem_mem hk) ho
theorem dash_ne {s : ByteArray} (h : s ≠ ⟨#[45]⟩) : s.data.toList ≠ [45] := fun e => h (by rw [tx_of s, e]; rfl)
set_option maxRecDepth 100000 in
set_option maxHeartbeats 4000000 in
theorem iReadList (s : ByteArray) (w : World) (hs : s.size ≤ 1048576) (hT : TabIn w) (hE : ErrIn w) (hM : MaxIn w) :
    Calls Tryz.prog 31 #[.string s] w (GotL w (rlV s.data.toList) (rlB s.data.toList)) := by
  obtain ⟨i0', hi, hz0, hz1, hz2⟩ := info_parts infoInt64
  have HT := Lib.hid hT
  have HE := Lib.hid hE
  have HMx := Lib.hid hM
  clear hT hE hM
  by_cases h0 : s = ⟨#[45]⟩
  · have HB := Lib.hid (show rlB s.data.toList = true ∧ rlV s.data.toList = [] by rw [h0]; exact rl_dash)
    clear hs
    go_enter Tryz.func31, Tryz.ntmps31
    go_wp2
    go_ret2
    exact ⟨none, 0, 0, ret_lb HB.out.1.symm, by rw [HB.out.2]; exact RowO.nil _ _ _, by (repeat (first | exact Below.refl _ _ | assumption | (refine Below.drewN ?_ _) | (refine Below.drew ?_) | (refine Below.alloc ?_ (by first | (simp; done) | (simp; omega) | omega) _) | (refine Below.setCell ?_ (by first | (simp; done) | (simp; omega) | omega) _) | (refine Below.trans ?_ (Below.mono (by assumption) (by first | (simp; done) | (simp; omega) | omega)))))⟩
  have HN := Lib.hid (dash_ne h0)
  have h0b : (s.toList == [45]) = false := beq_false_of_ne (fun e => h0 (by rw [tx_of s, ← ByteArray.toList_eq, e]; rfl))
  clear h0
  go_enter Tryz.func31, Tryz.ntmps31
  go_wp2_with fail
  (with_reducible refine (shSplit s 44 _ hs HMx.out).mono ?_)
  rintro e w1 ⟨bs, g, cap, rfl, hbs, hg1, hg2, hcell, hb1⟩
  obtain ⟨q, hq⟩ : ∃ q, bs.length = q := ⟨_, rfl⟩
  have HQ : Hid ((spl 44 s.data.toList).length = q) := by show _ = _; rw [← hbs, List.length_map, hq]
  have HP : Hid (∀ k, k < q → (spl 44 s.data.toList).getD k [] = (bs.getD k ByteArray.empty).data.toList) := fun k hk => by
    rw [← hbs]
    simp [List.getD, show k < bs.length by omega]
  have HPS : Hid (∀ k, k < q → (bs.getD k ByteArray.empty).size ≤ 1048576) := fun k hk => by
    rw [← sz_list, ← HP.out k hk]
    have hk' : k < (spl 44 s.data.toList).length := by rw [HQ.out]; exact hk
    have := spl_sum 44 s.data.toList ((spl 44 s.data.toList).getD k []) (by rw [show (spl 44 s.data.toList).getD k [] = (spl 44 s.data.toList)[k] by simp [List.getD, hk']]; exact List.getElem_mem hk')
    rw [sz_list] at this
    omega
  have hqs : q ≤ 1048577 := by
    have := spl_len 44 s.data.toList
    rw [HQ.out, sz_list] at this
    omega
  rw [hq] at hcell
  rw [hq]
  have HC := Lib.hid hcell
  clear hcell hbs hq
  have hs1 := hb1.size
  have nn0 := Lib.hid (OwnL.none w1 w1.heap.size)
  have HT1 := Lib.hid (HT.out.below hb1)
  have HE1 := Lib.hid (HE.out.below hb1)
  clear h0b hs HT HE HMx
  go_wp2
  go_loopw [4, 14] (fun v i wr => ∃ (k : Nat) (zs : List Int), k ≤ q ∧ k ≤ 64 ∧ i = .int .i64 k ∧ zs.length = k ∧ Hid (Got (spl 44 s.data.toList) k zs) ∧ Below w1.heap.size w1 wr ∧ w1.heap.size ≤ wr.heap.size ∧ Hid (OwnL wr w1.heap.size v zs)) (fun _ i _ => q - (intOf i).toNat)
  case atStart => exact ⟨0, [], by omega, by omega, rfl, rfl, Got.start _, Below.refl _ _, by omega, nn0⟩
  case round =>
    obtain ⟨k, zs, hk, hk64, rfl, hz, HG, hbr, hsz, HO⟩ := hrel
    obtain ⟨a, cp, hv, hro⟩ := HO.out.row
    rw [hz] at hv
    subst hv
    have HRO := Lib.hid hro
    clear hro
    by_cases hlt : k < q
    · have hp : wr.cell? ⟨g, k, none⟩ = some (.string (bs.getD k ByteArray.empty)) := ((bcell hbr).1 _ _ hg2).trans (HC.out k hlt)
      have hps := HPS.out k hlt
      have HE := Lib.hid (HP.out k hlt)
      generalize bs.getD k ByteArray.empty = p at *
      have HK : Hid (k < (spl 44 s.data.toList).length) := by show _ < _; rw [HQ.out]; exact hlt
      have HT2 := Lib.hid (HT1.out.below hbr)
      have HE2 := Lib.hid (HE1.out.below hbr)
      have i0 : (0 : Int) ≤ k := by omega
      have i1 : (k : Int) < q := by omega
      have i2 : (k : Int).toNat = k := by omega
      cases ho : okP p.data.toList
      · have HB := Lib.hid (Got.bad HN.out HK.out HE.out ho)
        rcases okP_f ho with h1 | ⟨h1, h2⟩
        · clear ho
          go_wp2_with fail
          (with_reducible refine (iReadDec _ _ hps HT2.out HE2.out).mono ?_)
          rintro e w2 ⟨rfl, hb2⟩
          have hs2 := hb2.size
          go_wp2
          go_ret2
          exact ⟨none, 0, 0, ret_lb HB.out.1.symm, by rw [HB.out.2]; exact RowO.nil _ _ _, by (repeat (first | exact Below.refl _ _ | assumption | (refine Below.drewN ?_ _) | (refine Below.drew ?_) | (refine Below.alloc ?_ (by first | (simp; done) | (simp; omega) | omega) _) | (refine Below.setCell ?_ (by first | (simp; done) | (simp; omega) | omega) _) | (refine Below.trans ?_ (Below.mono (by assumption) (by first | (simp; done) | (simp; omega) | omega)))))⟩
        · have hin := inB_no h2
          clear ho h2
          go_wp2_with fail
          (with_reducible refine (iReadDec _ _ hps HT2.out HE2.out).mono ?_)
          rintro e w2 ⟨rfl, hb2⟩
          have hs2 := hb2.size
          go_wp2_with (go_at_call 19; (with_reducible refine (iWithin _ _ _ _).mono ?_); rintro e w' ⟨rfl, rfl⟩)
          go_ret2
          exact ⟨none, 0, 0, ret_lb HB.out.1.symm, by rw [HB.out.2]; exact RowO.nil _ _ _, by (repeat (first | exact Below.refl _ _ | assumption | (refine Below.drewN ?_ _) | (refine Below.drew ?_) | (refine Below.alloc ?_ (by first | (simp; done) | (simp; omega) | omega) _) | (refine Below.setCell ?_ (by first | (simp; done) | (simp; omega) | omega) _) | (refine Below.trans ?_ (Below.mono (by assumption) (by first | (simp; done) | (simp; omega) | omega)))))⟩
      · have HG' := Lib.hid (HG.out.step HK.out HE.out ho)
        obtain ⟨h1, h2⟩ := okP_t ho
        have hin := inB_mk h2
        clear ho
        by_cases h64 : k = 64
        · have HB := Lib.hid (rl_long HN.out (by rw [HQ.out]; omega))
          have k64 : ((k : Int) == 64) = true := by simp; omega
          clear h64
          go_wp2_with fail
          (with_reducible refine (iReadDec _ _ hps HT2.out HE2.out).mono ?_)
          rintro e w2 ⟨rfl, hb2⟩
          have hs2 := hb2.size
          go_wp2_with (go_at_call 19; (with_reducible refine (iWithin _ _ _ _).mono ?_); rintro e w' ⟨rfl, rfl⟩)
          go_ret2
          exact ⟨none, 0, 0, ret_lb HB.out.1.symm, by rw [HB.out.2]; exact RowO.nil _ _ _, by (repeat (first | exact Below.refl _ _ | assumption | (refine Below.drewN ?_ _) | (refine Below.drew ?_) | (refine Below.alloc ?_ (by first | (simp; done) | (simp; omega) | omega) _) | (refine Below.setCell ?_ (by first | (simp; done) | (simp; omega) | omega) _) | (refine Below.trans ?_ (Below.mono (by assumption) (by first | (simp; done) | (simp; omega) | omega)))))⟩
        · have k64 : ((k : Int) == 64) = false := beq_false_of_ne (by omega)
          have k65 : k < 64 := by omega
          clear h64
          go_wp2_with fail
          (with_reducible refine (iReadDec _ _ hps HT2.out HE2.out).mono ?_)
          rintro e w2 ⟨rfl, hb2⟩
          have hs2 := hb2.size
          have HO2 := Lib.hid (ownsRow_below HO.out hb2)
          go_wp2_with (first | (go_at_call 19; (with_reducible refine (iWithin _ _ _ _).mono ?_); rintro e w' ⟨rfl, rfl⟩) | (at_builtin; refine wpApp1 rfl (.tmp 35) (.tmp 37) _ rfl w1.heap.size 2 i0' _ 8 Tryz.underlying54 hi hz0 hz1 hz2 rfl _ _ _ (by rfl) HO2.out (.int .i64 (rdV p.data.toList)) rfl (by rfl) (by omega) (by unfold maxLen; omega) (by omega) ?_; intro v' w3 hown' hbel hgt))
          go_roundw
          case rel => exact ⟨k + 1, zs ++ [rdV p.data.toList], by omega, by omega, by go_num, by simp; omega, HG', (hbr.trans (hb2.mono hsz)).trans hbel, by omega, OwnL.snoc hown'⟩
          case measure => simp [intOf]; omega
    · obtain rfl : k = q := by omega
      have HD : Hid (rlB s.data.toList = true ∧ rlV s.data.toList = zs) := by
        refine Got.done HN.out ?_ (by rw [HQ.out]; exact hk64)
        rw [HQ.out]
        exact HG.out
      have HZ := Lib.hid hz
      clear hz
      go_wp2
      go_ret2
      exact ⟨a, k, cp, ret_lb HD.out.1.symm, by rw [HD.out.2]; have := HRO.out.mono hs1; rw [HZ.out] at this; exact this, by (repeat (first | exact Below.refl _ _ | assumption | (refine Below.drewN ?_ _) | (refine Below.drew ?_) | (refine Below.alloc ?_ (by first | (simp; done) | (simp; omega) | omega) _) | (refine Below.setCell ?_ (by first | (simp; done) | (simp; omega) | omega) _) | (refine Below.trans ?_ (Below.mono (by assumption) (by first | (simp; done) | (simp; omega) | omega)))))⟩
def marks (n : Nat) : List Int := (List.range n).map fun (j : Nat) => (j : Int) + 1
theorem marks_len (n : Nat) : (marks n).length = n := by simp [marks]
theorem marks_get {n k : Nat} (h : k < n) : (marks n).getD k 0 = (k : Int) + 1 := by simp [marks, List.getD, h]
set_option maxRecDepth 100000 in
theorem facts_7 {W : World} (h : laidMetH Tryz.prog [("math/bits.deBruijn32tab", Rows.laid_math_bits_deBruijn32tab), ("math/bits.deBruijn64tab", Rows.laid_math_bits_deBruijn64tab), ("internal/strconv.uint64pow10", Rows.laid_internal_strconv_uint64pow10), ("unicode/utf8.acceptRanges", Rows.laid_unicode_utf8_acceptRanges), ("strconv.ErrRange", Rows.laid_strconv_ErrRange), ("strconv.ErrSyntax", Rows.laid_strconv_ErrSyntax), ("unicode/utf8.first", Rows.laid_unicode_utf8_first)] W) : TabIn W ∧ ErrIn W := by
  have h' : laidMet Tryz.prog [("math/bits.deBruijn32tab", Rows.laid_math_bits_deBruijn32tab), ("math/bits.deBruijn64tab", Rows.laid_math_bits_deBruijn64tab), ("internal/strconv.uint64pow10", Rows.laid_internal_strconv_uint64pow10), ("unicode/utf8.acceptRanges", Rows.laid_unicode_utf8_acceptRanges), ("strconv.ErrRange", Rows.laid_strconv_ErrRange), ("strconv.ErrSyntax", Rows.laid_strconv_ErrSyntax), ("unicode/utf8.first", Rows.laid_unicode_utf8_first)] W := h
  exact ⟨tabOf h'.tail.tail, errOf h'.tail.tail.tail.tail⟩
end Go.Proofs.YtmkmhljiajgibaaGreatDoor
