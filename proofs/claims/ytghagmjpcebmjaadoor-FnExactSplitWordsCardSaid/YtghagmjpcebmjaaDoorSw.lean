/-
  Contracts of words.
-/
import Derived.Test.YtghagmjpcebmjaaDoorRl
namespace Go.Proofs.YtghagmjpcebmjaaDoor
set_option linter.unusedVariables false
set_option linter.unusedSimpArgs false
open Go.RowKit
open Go.Lib (decDigits itoa)

/-- Those of the first k pieces that are not empty. -/
def nonE (ps : List (List UInt8)) (k : Nat) : List (List UInt8) := (ps.take k).filter fun p => !p.isEmpty
theorem nonE_0 (ps : List (List UInt8)) : nonE ps 0 = [] := rfl
theorem nonE_keep {ps : List (List UInt8)} {k : Nat} {p : List UInt8} (hk : k < ps.length) (e : ps.getD k [] = p) (h : p ≠ []) : nonE ps (k + 1) = nonE ps k ++ [p] := by
  unfold nonE
  rw [List.take_add_one, List.getElem?_eq_getElem hk, List.filter_append]
  have : ps[k] = p := by rw [← e]; simp [List.getD, hk]
  have hp : p.isEmpty = false := by cases p <;> simp_all
  simp [this, hp]
theorem nonE_drop {ps : List (List UInt8)} {k : Nat} {p : List UInt8} (hk : k < ps.length) (e : ps.getD k [] = p) (h : p = []) : nonE ps (k + 1) = nonE ps k := by
  unfold nonE
  rw [List.take_add_one, List.getElem?_eq_getElem hk, List.filter_append]
  have : ps[k] = p := by rw [← e]; simp [List.getD, hk]
  simp [this, h]
theorem nonE_len (ps : List (List UInt8)) (k : Nat) : (nonE ps k).length ≤ k := by
  unfold nonE
  have := List.length_filter_le (fun p : List UInt8 => !p.isEmpty) (ps.take k)
  rw [List.length_take] at this
  omega
/-- The words of a text. -/
def wds (l : List UInt8) : List (List UInt8) := nonE (spl 32 l) (spl 32 l).length
theorem OwnS.keep' {w w' : World} {g n : Nat} {f : Nat → ByteArray} (h : OwnS w g f n) (hb : Below w.heap.size w w') : OwnS w' g f n := h.keep hb
/-- A row of texts from block B on, which may be written; where it is empty nothing is said of its address. -/
def RowT (w : World) (B : Nat) (a : Option Addr) (n : Nat) (ts : List (List UInt8)) : Prop := n = ts.length ∧ (n = 0 ∨ ∃ g, a = some ⟨g, 0, none⟩ ∧ B ≤ g ∧ g < w.heap.size ∧ OwnS w g (fun j => tx (ts.getD j [])) n)
theorem RowT.keep {w w' : World} {B : Nat} {a : Option Addr} {n : Nat} {ts : List (List UInt8)} (h : RowT w B a n ts) (hb : Below w.heap.size w w') : RowT w' B a n ts := by
  obtain ⟨h1, h2 | ⟨g, h2, h3, h4, h5⟩⟩ := h
  · exact ⟨h1, .inl h2⟩
  · exact ⟨h1, .inr ⟨g, h2, h3, Nat.lt_of_lt_of_le h4 hb.size, h5.keep hb⟩⟩
theorem RowT.mono {w : World} {B B' : Nat} {a : Option Addr} {n : Nat} {ts : List (List UInt8)} (h : RowT w B a n ts) (hB : B' ≤ B) : RowT w B' a n ts := by
  obtain ⟨h1, h2 | ⟨g, h2, h3, h4⟩⟩ := h
  · exact ⟨h1, .inl h2⟩
  · exact ⟨h1, .inr ⟨g, h2, by omega, h4⟩⟩
theorem RowT.drewN {w : World} {B : Nat} {a : Option Addr} {n : Nat} {ts : List (List UInt8)} (h : RowT w B a n ts) (m : Nat) : RowT (w.drewN m) B a n ts := h
theorem OwnT.none (w : World) (B : Nat) : OwnT w B (.slice none 0 0) [] := World.ownsRow_nil w B _ 1
theorem OwnT.row {w : World} {B : Nat} {v : Value} {bs : List ByteArray} (h : OwnT w B v bs) : ∃ a cap, v = .slice a bs.length cap ∧ RowT w B a bs.length (bs.map (·.data.toList)) := by
  rcases h.2 with ⟨hv, h0⟩ | ⟨g, cap, cur, hv, h1, h2, -⟩
  · exact ⟨_, 0, by rw [hv, h0], by simp, .inl h0⟩
  · refine ⟨_, cap, hv, by simp, .inr ⟨g, rfl, h1, (Array.getElem?_eq_some_iff.1 h2).1, fun j hj => ?_⟩⟩
    subst hv
    refine ⟨?_, World.ownsRow.frozenAt h j⟩
    rw [World.ownsRow.cellAt h j (by omega)]
    simp [List.getD, hj]
    exact tx_of _
/-- What cutting into words leaves. -/
def GotW (w : World) (ts : List (List UInt8)) (e : Ending) (w' : World) : Prop := ∃ a n cap, e = .returned (.slice a n cap) ∧ RowT w' w.heap.size a n ts ∧ Below w.heap.size w w'
theorem sz_empty {p : ByteArray} : p.data.toList = [] ↔ p.size = 0 := by
  rw [← sz_list, List.length_eq_zero_iff]
theorem ne_b {p : ByteArray} (h : ¬ p.data.toList = []) : (p.toList == []) = false := beq_false_of_ne (fun e => h (by rw [← ByteArray.toList_eq, e]))
theorem eq_b {p : ByteArray} (h : p.data.toList = []) : (p.toList == []) = true := by rw [ByteArray.toList_eq, h]; rfl
set_option maxRecDepth 100000 in
set_option maxHeartbeats 4000000 in
theorem sSplitWords (s : ByteArray) (w : World) (hs : s.size ≤ 1048576) :
    Calls Tryd.prog 19 #[.string s] w (GotW w (wds s.data.toList)) := by
  obtain ⟨i0', hi, hz0, hz1, hz2⟩ := info_parts infoStr2
  go_enter Tryd.func19, Tryd.ntmps19
  go_wp2_with fail
  (with_reducible refine (sSplit _ 32 32 _ hs rfl (by decide) (by decide)).mono ?_)
  rintro e w1 ⟨bs, g, cap, rfl, hbs, hg1, hg2, hcell, hb1⟩
  obtain ⟨q, hq⟩ : ∃ q, bs.length = q := ⟨_, rfl⟩
  have HQ : Hid ((spl 32 s.data.toList).length = q) := by show _ = _; rw [← hbs, List.length_map, hq]
  have HP : Hid (∀ k, k < q → (spl 32 s.data.toList).getD k [] = (bs.getD k ByteArray.empty).data.toList) := fun k hk => by
    rw [← hbs]
    simp [List.getD, show k < bs.length by omega]
  have hqs : q ≤ 1048577 := by
    have := spl_len 32 s.data.toList
    rw [HQ.out, sz_list] at this
    omega
  rw [hq] at hcell
  rw [hq]
  have HC := Lib.hid hcell
  clear hcell hbs hq
  have hs1 := hb1.size
  have nn0 := Lib.hid (OwnT.nil w1 w1.heap.size (Nat.le_refl _))
  clear hs
  go_wp2
  go_loopw [4, 5] (fun v i wr => ∃ (k : Nat) (xs : List ByteArray), k ≤ q ∧ i = .int .i64 k ∧ xs.length ≤ k ∧ Hid (xs.map (·.data.toList) = nonE (spl 32 s.data.toList) k) ∧ Below w1.heap.size w1 wr ∧ w1.heap.size ≤ wr.heap.size ∧ Hid (OwnT wr w1.heap.size v xs)) (fun _ i _ => q - (intOf i).toNat)
  case atStart => exact ⟨0, [], by omega, rfl, by simp, rfl, (Below.refl _ _).alloc (Nat.le_refl _) _, by simp, nn0⟩
  case round =>
    obtain ⟨k, xs, hk, rfl, hxl, HX, hbr, hsz, HO⟩ := hrel
    by_cases hlt : k < q
    · have hp : wr.cell? ⟨g, k, none⟩ = some (.string (bs.getD k ByteArray.empty)) := ((bcell hbr).1 _ _ hg2).trans (HC.out k hlt)
      have HE := Lib.hid (HP.out k hlt)
      generalize bs.getD k ByteArray.empty = p at *
      have HK : Hid (k < (spl 32 s.data.toList).length) := by show _ < _; rw [HQ.out]; exact hlt
      have i0 : (0 : Int) ≤ k := by omega
      have i1 : (k : Int) < q := by omega
      have i2 : (k : Int).toNat = k := by omega
      by_cases he : p.data.toList = []
      · have HN := Lib.hid (nonE_drop HK.out HE.out he)
        have hpe := eq_b he
        clear he
        go_wp2
        go_roundw
        case rel => exact ⟨k + 1, xs, by omega, by go_num, by omega, by show _ = _; rw [HN.out]; exact HX.out, hbr, hsz, HO⟩
        case measure => simp [intOf]; omega
      · have HN := Lib.hid (nonE_keep HK.out HE.out he)
        have hpe := ne_b he
        clear he
        go_wp2_with (at_builtin; refine wpApp1 rfl (.tmp 20) (.tmp 25) _ rfl w1.heap.size 9 i0' _ 16 Tryd.underlying24 hi hz0 hz1 hz2 rfl _ _ _ (by rfl) HO.out (.string p) rfl (by rfl) (by omega) (by unfold maxLen; omega) hsz ?_; intro v' w2 hown' hbel hgt)
        go_roundw
        case rel => exact ⟨k + 1, xs ++ [p], by omega, by go_num, by simp; omega, by show _ = _; rw [HN.out, List.map_append, HX.out]; rfl, hbr.trans hbel, by omega, OwnT.snoc hown'⟩
        case measure => simp [intOf]; omega
    · obtain rfl : k = q := by omega
      have HD : Hid (xs.map (·.data.toList) = wds s.data.toList) := by
        show _ = _
        unfold wds
        rw [HQ.out]
        exact HX.out
      obtain ⟨a, cp, rfl, hro⟩ := HO.out.row
      have HRO := Lib.hid hro
      clear hro
      go_wp2
      go_ret
      exact ⟨a, _, cp, rfl, by rw [← HD.out]; exact HRO.out.mono hs1, by (repeat (first | exact Below.refl _ _ | assumption | (refine Below.drewN ?_ _) | (refine Below.drew ?_) | (refine Below.alloc ?_ (by first | (simp; done) | (simp; omega) | omega) _) | (refine Below.setCell ?_ (by first | (simp; done) | (simp; omega) | omega) _) | (refine Below.trans ?_ (Below.mono (by assumption) (by first | (simp; done) | (simp; omega) | omega)))))⟩
set_option maxRecDepth 100000 in
set_option maxHeartbeats 4000000 in
theorem iSplitWords (s : ByteArray) (w : World) (hs : s.size ≤ 1048576) (hM : MaxIn w) :
    Calls Tryd.prog 20 #[.string s] w (GotW w (wds s.data.toList)) := by
  obtain ⟨i0', hi, hz0, hz1, hz2⟩ := info_parts infoStr2
  go_enter Tryd.func20, Tryd.ntmps20
  go_wp2_with fail
  (with_reducible refine (shSplit s 32 _ hs hM).mono ?_)
  rintro e w1 ⟨bs, g, cap, rfl, hbs, hg1, hg2, hcell, hb1⟩
  obtain ⟨q, hq⟩ : ∃ q, bs.length = q := ⟨_, rfl⟩
  have HQ : Hid ((spl 32 s.data.toList).length = q) := by show _ = _; rw [← hbs, List.length_map, hq]
  have HP : Hid (∀ k, k < q → (spl 32 s.data.toList).getD k [] = (bs.getD k ByteArray.empty).data.toList) := fun k hk => by
    rw [← hbs]
    simp [List.getD, show k < bs.length by omega]
  have hqs : q ≤ 1048577 := by
    have := spl_len 32 s.data.toList
    rw [HQ.out, sz_list] at this
    omega
  rw [hq] at hcell
  rw [hq]
  have HC := Lib.hid hcell
  clear hcell hbs hq
  have hs1 := hb1.size
  have nn0 := Lib.hid (OwnT.none w1 w1.heap.size)
  clear hs hM
  go_wp2
  go_loopw [3, 9] (fun v i wr => ∃ (k : Nat) (xs : List ByteArray), k ≤ q ∧ i = .int .i64 k ∧ xs.length ≤ k ∧ Hid (xs.map (·.data.toList) = nonE (spl 32 s.data.toList) k) ∧ Below w1.heap.size w1 wr ∧ w1.heap.size ≤ wr.heap.size ∧ Hid (OwnT wr w1.heap.size v xs)) (fun _ i _ => q - (intOf i).toNat)
  case atStart => exact ⟨0, [], by omega, rfl, by simp, rfl, Below.refl _ _, by omega, nn0⟩
  case round =>
    obtain ⟨k, xs, hk, rfl, hxl, HX, hbr, hsz, HO⟩ := hrel
    by_cases hlt : k < q
    · have hp : wr.cell? ⟨g, k, none⟩ = some (.string (bs.getD k ByteArray.empty)) := ((bcell hbr).1 _ _ hg2).trans (HC.out k hlt)
      have HE := Lib.hid (HP.out k hlt)
      generalize bs.getD k ByteArray.empty = p at *
      have HK : Hid (k < (spl 32 s.data.toList).length) := by show _ < _; rw [HQ.out]; exact hlt
      have i0 : (0 : Int) ≤ k := by omega
      have i1 : (k : Int) < q := by omega
      have i2 : (k : Int).toNat = k := by omega
      by_cases he : p.data.toList = []
      · have HN := Lib.hid (nonE_drop HK.out HE.out he)
        have hpe := eq_b he
        clear he
        go_wp2
        go_roundw
        case rel => exact ⟨k + 1, xs, by omega, by go_num, by omega, by show _ = _; rw [HN.out]; exact HX.out, hbr, hsz, HO⟩
        case measure => simp [intOf]; omega
      · have HN := Lib.hid (nonE_keep HK.out HE.out he)
        have hpe := ne_b he
        clear he
        go_wp2_with (at_builtin; refine wpApp1 rfl (.tmp 15) (.tmp 17) _ rfl w1.heap.size 9 i0' _ 16 Tryd.underlying24 hi hz0 hz1 hz2 rfl _ _ _ (by rfl) HO.out (.string p) rfl (by rfl) (by omega) (by unfold maxLen; omega) hsz ?_; intro v' w2 hown' hbel hgt)
        go_roundw
        case rel => exact ⟨k + 1, xs ++ [p], by omega, by go_num, by simp; omega, by show _ = _; rw [HN.out, List.map_append, HX.out]; rfl, hbr.trans hbel, by omega, OwnT.snoc hown'⟩
        case measure => simp [intOf]; omega
    · obtain rfl : k = q := by omega
      have HD : Hid (xs.map (·.data.toList) = wds s.data.toList) := by
        show _ = _
        unfold wds
        rw [HQ.out]
        exact HX.out
      obtain ⟨a, cp, rfl, hro⟩ := HO.out.row
      have HRO := Lib.hid hro
      clear hro
      go_wp2
      go_ret
      exact ⟨a, _, cp, rfl, by rw [← HD.out]; exact HRO.out.mono hs1, by (repeat (first | exact Below.refl _ _ | assumption | (refine Below.drewN ?_ _) | (refine Below.drew ?_) | (refine Below.alloc ?_ (by first | (simp; done) | (simp; omega) | omega) _) | (refine Below.setCell ?_ (by first | (simp; done) | (simp; omega) | omega) _) | (refine Below.trans ?_ (Below.mono (by assumption) (by first | (simp; done) | (simp; omega) | omega)))))⟩
/-- A mark's text. -/
def mkT (k : Int) : List UInt8 := 109 :: decDigits k.toNat
theorem mkT_len {k : Int} (h : k ≤ 2097152) : (mkT k).length ≤ 21 := by
  unfold mkT
  have := dd_len20 (N := k.toNat) (by omega)
  simp
  omega
set_option maxRecDepth 100000 in
theorem lMarkText (n : Int) (w : World) (h1 : 1 ≤ n) (h2 : n ≤ 2097152) :
    Calls Tryd.prog 64 #[.int .i64 n] w fun e w' => e = .returned (.string (tx (mkT n))) ∧ Below w.heap.size w w' := by
  have HG : Hid (Gath n.toNat n []) := Gath.start (by omega) (by omega)
  have Hd20 := Lib.hid (dd_len20 (N := n.toNat) (by omega))
  go_enter Tryd.func64, Tryd.ntmps64
  go_wp2
  go_loopw [0, 3] (fun m v wr => ∃ (U : Int) (ds : List UInt8), m = .int .i64 U ∧ 0 ≤ U ∧ U ≤ n ∧ ds.length ≤ 20 ∧ Hid (Gath n.toNat U ds) ∧ v = .string (tx ds.reverse) ∧ Below w.heap.size w wr ∧ w.heap.size ≤ wr.heap.size) (fun m _ _ => (intOf m).toNat)
  case atStart => exact ⟨n, [], rfl, by omega, by omega, by simp, HG, rfl, Below.refl _ _, by omega⟩
  case round =>
    obtain ⟨U, L, rfl, hU0, hU, hds, HU, rfl, hbr, hsz⟩ := hrel
    by_cases hUz : U ≤ 0
    · obtain rfl : U = 0 := by omega
      have HL := Lib.hid HU.out.done
      have hL20 : (tx L.reverse).size ≤ 20 := by rw [tx_size, List.length_reverse]; exact hds
      clear HU
      generalize L.reverse = M at *
      go_wp2
      go_ret
      exact ⟨ret_s (by show tx [109] ++ _ = _; rw [tx_cat, HL.out]; rfl), by (repeat (first | exact Below.refl _ _ | assumption | (refine Below.drewN ?_ _) | (refine Below.drew ?_) | (refine Below.alloc ?_ (by first | (simp; done) | (simp; omega) | omega) _) | (refine Below.setCell ?_ (by first | (simp; done) | (simp; omega) | omega) _) | (refine Below.trans ?_ (Below.mono (by assumption) (by first | (simp; done) | (simp; omega) | omega)))))⟩
    · obtain ⟨K, D, e, d0, d1, k0⟩ : ∃ K D : Int, U = 10 * K + D ∧ 0 ≤ D ∧ D ≤ 9 ∧ 0 ≤ K := ⟨U / 10, U % 10, by omega, by omega, by omega, by omega⟩
      have HU' := Lib.hid (HU.out.step (by omega) e d0 d1 k0)
      have hl' := Nat.le_trans HU'.out.len Hd20.out
      simp only [List.length_append, List.length_cons, List.length_nil] at hl'
      have t1 : U.tmod 10 = D := by rw [tmod_nonneg _ hU0]; omega
      have t2 : U.tdiv 10 = K := by rw [tdiv_nonneg _ hU0]; omega
      have HD := Lib.hid (dgt d0 d1)
      have hU1 : 0 < U := by omega
      have hKU : K < U := by omega
      have HE := Lib.hid e
      have hL20 : (tx L.reverse).size ≤ 20 := by rw [tx_size, List.length_reverse]; exact hds
      have hcv := run_convert_bytes_back (P := Tryd.prog) (wr.alloc (.cells #[.int .u8 (48 + D)] 5)) 57 9 5 ⟨wr.heap.size, 0, none⟩ 1 [UInt8.ofNat (48 + D.toNat)] Tryd.underlying57 Tryd.underlying5 Tryd.underlying9 (fun j hj => by
        obtain rfl : j = 0 := by simpa using hj
        rw [HD.out]; simp [Addr.add, World.cell?_alloc_new])
      rw [show [UInt8.ofNat (48 + D.toNat)].length = 1 from rfl] at hcv
      have hl19 : L.length ≤ 19 := by omega
      clear e hUz
      clear hl' HU
      generalize UInt8.ofNat (48 + D.toNat) = b at *
      go_wp2
      go_roundw
      case rel => exact ⟨K, L ++ [b], rfl, k0, by omega, by simp; omega, HU', by rw [List.reverse_append, ← tx_cat]; rfl, by (repeat (first | exact Below.refl _ _ | assumption | (refine Below.drewN ?_ _) | (refine Below.drew ?_) | (refine Below.alloc ?_ (by first | (simp; done) | (simp; omega) | omega) _) | (refine Below.setCell ?_ (by first | (simp; done) | (simp; omega) | omega) _) | (refine Below.trans ?_ (Below.mono (by assumption) (by first | (simp; done) | (simp; omega) | omega))))), by simp; omega⟩
      case measure => simp [intOf]; omega
theorem mkT_ne0 (k : Int) : (mkT k).length ≠ 0 := by simp [mkT]
def marksT (n : Nat) : List (List UInt8) := (List.range n).map fun (j : Nat) => mkT ((j : Int) + 1)
theorem marksT_len (n : Nat) : (marksT n).length = n := by simp [marksT]
theorem marksT_get {n k : Nat} (h : k < n) : (marksT n).getD k [] = mkT ((k : Int) + 1) := by simp [marksT, List.getD, h]
theorem lEqStrS (a a' : Option Addr) (n c c' B B' : Nat) (ts : List (List UInt8)) (w : World) (H : RowT w B a n ts) (H' : RowT w B' a' n ts) (hn : n ≤ 1048577) :
    Calls Tryd.prog 21 #[.slice a n c, .slice a' n c'] w fun e w' => e = .returned (.bool true) ∧ ∃ m, w' = w.drewN m := by
  obtain ⟨hl, H⟩ := H
  obtain ⟨-, H'⟩ := H'
  clear hl
  rcases H with h0 | ⟨g, rfl, -, -, hc⟩
  · replace h0 : n ≤ 0 := by omega
    clear H'
    go_enter Tryd.func21, Tryd.ntmps21
    go_wp2
    go_loopw [5] (fun i wr => ∃ (k : Nat) (m : Nat), k ≤ n ∧ i = .int .i64 k ∧ wr = w.drewN m) (fun i _ => n - (intOf i).toNat)
    case atStart => exact ⟨0, 0, by omega, rfl, rfl⟩
    case round =>
      obtain ⟨k, m, hk, rfl, rfl⟩ := hrel
      have hlt : ¬ k < n := by omega
      go_wp2
      go_ret
      exact ⟨rfl, _, rfl⟩
  · rcases H' with h0 | ⟨g', rfl, -, -, hc'⟩
    · replace h0 : n ≤ 0 := by omega
      clear hc
      go_enter Tryd.func21, Tryd.ntmps21
      go_wp2
      go_loopw [5] (fun i wr => ∃ (k : Nat) (m : Nat), k ≤ n ∧ i = .int .i64 k ∧ wr = w.drewN m) (fun i _ => n - (intOf i).toNat)
      case atStart => exact ⟨0, 0, by omega, rfl, rfl⟩
      case round =>
        obtain ⟨k, m, hk, rfl, rfl⟩ := hrel
        have hlt : ¬ k < n := by omega
        go_wp2
        go_ret
        exact ⟨rfl, _, rfl⟩
    · have HC := Lib.hid hc
      have HC' := Lib.hid hc'
      clear hc hc'
      go_enter Tryd.func21, Tryd.ntmps21
      go_wp2
      go_loopw [5] (fun i wr => ∃ (k : Nat) (m : Nat), k ≤ n ∧ i = .int .i64 k ∧ wr = w.drewN m) (fun i _ => n - (intOf i).toNat)
      case atStart => exact ⟨0, 0, by omega, rfl, rfl⟩
      case round =>
        obtain ⟨k, m, hk, rfl, rfl⟩ := hrel
        by_cases hlt : k < n
        · have h1 : w.cell? ⟨g, k, none⟩ = some (.string (tx (ts.getD k []))) := (HC.out k hlt).1
          have h2 : w.cell? ⟨g', k, none⟩ = some (.string (tx (ts.getD k []))) := (HC'.out k hlt).1
          generalize tx (ts.getD k []) = z at *
          have i0 : (0 : Int) ≤ k := by omega
          have i1 : (k : Int) < n := by omega
          have i2 : (k : Int).toNat = k := by omega
          go_wp2
          go_quiet (fail)
          go_wp2
          go_roundw
          case rel => exact ⟨k + 1, _, by omega, by go_num, rfl⟩
          case measure => simp [intOf]; omega
        · go_wp2
          go_ret
          exact ⟨rfl, _, rfl⟩
theorem lMarkS (a : Option Addr) (n c B : Nat) (ts : List (List UInt8)) (w : World) (H : RowT w B a n ts) (hn : n ≤ 1048577) (hB : B ≤ w.heap.size) :
    Calls Tryd.prog 22 #[.slice a n c, .int .i64 1] w fun e w' => e = .returned (.int .i64 (n + 1)) ∧ RowT w' B a n (marksT n) ∧ Below B w w' := by
  obtain ⟨hl, H⟩ := H
  clear hl
  rcases H with h0 | ⟨g, rfl, hg1, hg2, HO⟩
  · replace h0 : n ≤ 0 := by omega
    go_enter Tryd.func22, Tryd.ntmps22
    go_wp2
    go_loopw [1, 5] (fun m i wr => ∃ k : Nat, k ≤ n ∧ i = .int .i64 k ∧ m = .int .i64 (k + 1) ∧ wr = w) (fun _ i _ => n - (intOf i).toNat)
    case atStart => exact ⟨0, by omega, rfl, rfl, rfl⟩
    case round =>
      obtain ⟨k, hk, rfl, rfl, rfl⟩ := hrel
      have hlt : ¬ k < n := by omega
      have hk0 : Hid (k = n) := by show _ = _; omega
      go_wp2
      go_ret
      exact ⟨by rw [hk0.out]; rfl, ⟨(marksT_len n).symm, .inl (by omega)⟩, Below.refl _ _⟩
  · have HO1 : Hid (OwnS w g (fun j => if j < 0 then tx (mkT ((j : Int) + 1)) else tx (ts.getD j [])) n) := HO.congr (fun j _ => by simp)
    clear HO
    go_enter Tryd.func22, Tryd.ntmps22
    go_wp2
    go_loopw [1, 5] (fun m i wr => ∃ k : Nat, k ≤ n ∧ i = .int .i64 k ∧ m = .int .i64 (k + 1) ∧ Below B w wr ∧ Hid (OwnS wr g (fun j => if j < k then tx (mkT ((j : Int) + 1)) else tx (ts.getD j [])) n)) (fun _ i _ => n - (intOf i).toNat)
    case atStart => exact ⟨0, by omega, rfl, rfl, Below.refl _ _, HO1⟩
    case round =>
      obtain ⟨k, hk, rfl, rfl, hb, HO⟩ := hrel
      have hsr := hb.size
      by_cases hlt : k < n
      · have i0 : (0 : Int) ≤ k := by omega
        have i1 : (k : Int) < n := by omega
        have i2 : (k : Int).toNat = k := by omega
        have gwr : g < wr.heap.size := by omega
        have HM : Hid (∀ x, x = tx (mkT ((k : Int) + 1)) → True) := fun _ _ => trivial
        go_wp2_with fail
        (with_reducible refine (lMarkText _ _ (by omega) (by omega)).mono ?_)
        rintro e w2 ⟨rfl, hb2⟩
        have HO2 := Lib.hid (HO.out.keep hb2)
        obtain ⟨hdst, hfr⟩ := HO2.out k hlt
        have hbw := hb.trans (hb2.mono (by omega))
        go_wp2
        go_roundw
        case rel => exact ⟨k + 1, by omega, by go_num, by go_num, hbw.setCell hg1 _, (HO2.out.set hlt _).congr (fun j _ => by
            by_cases e : j = k
            · subst e; rw [if_pos rfl, if_pos (by omega)]
            · rw [if_neg e]; by_cases h : j < k
              · rw [if_pos h, if_pos (by omega)]
              · rw [if_neg h, if_neg (by omega)])⟩
        case measure => simp [intOf]; omega
      · obtain rfl : k = n := by omega
        go_wp2
        go_ret
        exact ⟨rfl, ⟨(marksT_len k).symm, .inr ⟨g, rfl, hg1, Nat.lt_of_lt_of_le hg2 hb.size, HO.out.congr (fun j hj => by rw [if_pos hj, marksT_get hj])⟩⟩, hb⟩
theorem lHeldS (a : Option Addr) (n c B : Nat) (w : World) (H : RowT w B a n (marksT n)) (hn : n ≤ 1048577) :
    Calls Tryd.prog 23 #[.slice a n c, .int .i64 1] w fun e w' => e = .returned (.int .i64 (n + 1)) ∧ Below w.heap.size w w' := by
  obtain ⟨hl, H⟩ := H
  clear hl
  rcases H with h0 | ⟨g, rfl, hg1, hg2, HO⟩
  · replace h0 : n ≤ 0 := by omega
    go_enter Tryd.func23, Tryd.ntmps23
    go_wp2
    go_loopw [1, 5] (fun m i wr => ∃ k : Nat, k ≤ n ∧ i = .int .i64 k ∧ m = .int .i64 (k + 1) ∧ wr = w) (fun _ i _ => n - (intOf i).toNat)
    case atStart => exact ⟨0, by omega, rfl, rfl, rfl⟩
    case round =>
      obtain ⟨k, hk, rfl, rfl, rfl⟩ := hrel
      have hlt : ¬ k < n := by omega
      have hk0 : Hid (k = n) := by show _ = _; omega
      go_wp2
      go_ret
      exact ⟨by rw [hk0.out]; rfl, Below.refl _ _⟩
  · have HO := Lib.hid HO
    go_enter Tryd.func23, Tryd.ntmps23
    go_wp2
    go_loopw [1, 5] (fun m i wr => ∃ k : Nat, k ≤ n ∧ i = .int .i64 k ∧ m = .int .i64 (k + 1) ∧ Below w.heap.size w wr) (fun _ i _ => n - (intOf i).toNat)
    case atStart => exact ⟨0, by omega, rfl, rfl, Below.refl _ _⟩
    case round =>
      obtain ⟨k, hk, rfl, rfl, hb⟩ := hrel
      have hsr := hb.size
      by_cases hlt : k < n
      · have h1 : wr.cell? ⟨g, k, none⟩ = some (.string (tx (mkT ((k : Int) + 1)))) := ((bcell hb).1 _ _ hg2).trans (((HO.out k hlt).1).trans (by show some (Value.string (tx ((marksT n).getD k []))) = _; rw [marksT_get hlt]))
        have i0 : (0 : Int) ≤ k := by omega
        have i1 : (k : Int) < n := by omega
        have i2 : (k : Int).toNat = k := by omega
        have gwr : g < wr.heap.size := by omega
        have hbk := hb
        go_wp2_with fail
        go_region_held3 (fun w' => w'.cell? ⟨g, k, none⟩ = some (.string (tx (mkT ((k : Int) + 1))))) (simp [*, World.cell?_alloc_some, World.cell?_setCell_far, World.cell?_alloc_past]) ((go_at_call 64; (with_reducible refine (lMarkText _ _ (by omega) (by omega)).mono ?_); rintro e w' ⟨rfl, hb⟩; have hs := hb.size; (try simp at hs); (try have hz : w.heap.size < w'.heap.size := by omega); (try have hy : w.heap.size < w'.heap.size + 1 := by omega); (try have hyy : w.heap.size < w'.heap.size + 1 + 1 := by omega); (try have hz1 : w.heap.size + 1 < w'.heap.size := by omega); (try have hn : ¬ w'.heap.size = w.heap.size := by omega); (try have hn1 : ¬ w'.heap.size = w.heap.size + 1 := by omega); (try have hz2 : w.heap.size + 1 + 1 < w'.heap.size := by omega); (try have hq := Nat.lt_of_lt_of_le (by assumption) hs); (try have hq := Nat.lt_of_succ_le hs); obtain ⟨hc, hf⟩ := bcell hb; (try simp only [World.size_drew, World.cell?_drew, World.frozen?_drew, World.heap_drewN, World.cell?_drewN, World.frozen?_drewN] at hc hf)))
        all_goals (go_wp2)
        all_goals (go_roundw)
        all_goals (first | (case rel => exact ⟨k + 1, by omega, by go_num, by go_num, by (repeat (first | exact Below.refl _ _ | assumption | (refine Below.drewN ?_ _) | (refine Below.drew ?_) | (refine Below.alloc ?_ (by first | (simp; done) | (simp; omega) | omega) _) | (refine Below.setCell ?_ (by first | (simp; done) | (simp; omega) | omega) _) | (refine Below.trans ?_ (Below.mono (by assumption) (by first | (simp; done) | (simp; omega) | omega)))))⟩) | skip)
        all_goals (first | (case measure => simp [intOf]; omega) | skip)
      · obtain rfl : k = n := by omega
        go_wp2
        go_ret
        exact ⟨rfl, hb⟩
theorem wds_len (l : List UInt8) : (wds l).length ≤ l.length + 1 := Nat.le_trans (nonE_len _ _) (spl_len 32 l)
theorem walk_FnExactSplitWords (a0 : ByteArray) (w : World) (w0 : a0.size ≤ maxLen) (hM : MaxIn w) :
    Calls Tryd.prog 5 #[.string a0] w fun e w' => e = .returned (.bool true) ∧ Below w.heap.size w w' := by
  have HM := Lib.hid hM
  clear hM
  by_cases hl : a0.size ≤ 1048576
  · clear w0
    have HL64 : Hid ((wds a0.data.toList).length ≤ 1048577) := by
      have := wds_len a0.data.toList
      rw [sz_list] at this
      show _ ≤ _
      omega
    go_enter Tryd.func5, Tryd.ntmps5
    go_wp2_with fail
    (with_reducible refine (sSplitWords _ _ hl).mono ?_)
    rintro e w1 ⟨a1, n1, c1, rfl, hr1, hb1⟩
    have HR1 := Lib.hid hr1
    clear hr1
    have hn1 : n1 ≤ 1048577 := by rw [HR1.out.1]; exact HL64.out
    go_wp2_with fail
    (with_reducible refine (iSplitWords _ _ hl (HM.out.below hb1)).mono ?_)
    rintro e w2 ⟨a2, n2, c2, rfl, hr2, hb2⟩
    have HR2 := Lib.hid hr2
    clear hr2
    obtain rfl : n2 = n1 := by rw [HR2.out.1, HR1.out.1]
    have HR1' := Lib.hid (HR1.out.keep hb2)
    have hs2 := hb2.size
    go_wp2_with fail
    (with_reducible refine (lEqStrS _ _ _ _ _ _ _ _ _ HR2.out HR1'.out hn1).mono ?_)
    rintro e w' ⟨rfl, m, rfl⟩
    clear HR1'
    go_wp2_with fail
    (with_reducible refine (lMarkS _ _ _ w1.heap.size _ _ (HR2.out.drewN m) hn1 (by simpa using hs2)).mono ?_)
    rintro e w3 ⟨rfl, hr3, hb3⟩
    have HR3 := Lib.hid hr3
    clear hr3 HR2
    go_wp2_with fail
    (with_reducible refine (lHeldS _ _ _ _ _ HR3.out hn1).mono ?_)
    rintro e w3' ⟨rfl, hb3'⟩
    have hs3 := hb3.size
    (try simp at hs3)
    have HB1 : Hid (Below w1.heap.size w1 w3') := ((hb2.drewN m).trans hb3).trans (hb3'.mono (by omega))
    have HB : Hid (Below w.heap.size w w3') := hb1.trans (HB1.out.mono hb1.size)
    have HR13 := Lib.hid (HR1.out.keep HB1.out)
    have HR3' := Lib.hid (HR3.out.keep hb3')
    clear HR1 HR3
    go_wp2_with fail
    (with_reducible refine (iSplitWords _ _ hl (HM.out.below HB.out)).mono ?_)
    rintro e w4 ⟨a4, n4, c4, rfl, hr4, hb4⟩
    have HR4 := Lib.hid hr4
    clear hr4
    obtain rfl : n4 = n2 := by rw [HR4.out.1, HR13.out.1]
    have HR14 := Lib.hid (HR13.out.keep hb4)
    have HR34 := Lib.hid (HR3'.out.keep hb4)
    have HBe := Lib.hid (HB.out.trans (hb4.mono HB.out.size))
    clear HR13 HR3'
    go_wp2_with fail
    (with_reducible refine (lEqStrS _ _ _ _ _ _ _ _ _ HR4.out HR14.out hn1).mono ?_)
    rintro e w' ⟨rfl, m4, rfl⟩
    go_wp2_with fail
    (with_reducible refine (lHeldS _ _ _ _ _ (HR34.out.drewN m4) hn1).mono ?_)
    rintro e w5 ⟨rfl, hb5⟩
    go_wp2
    go_ret
    exact ⟨rfl, (HBe.out.drewN m4).trans (hb5.mono (by have := HBe.out.size; simpa using this))⟩
  · unfold maxLen at w0
    have h : 1048576 < a0.size := by omega
    go_enter Tryd.func5, Tryd.ntmps5
    go_wp2
    go_ret
    exact ⟨rfl, by (repeat (first | exact Below.refl _ _ | assumption | (refine Below.drewN ?_ _) | (refine Below.drew ?_) | (refine Below.alloc ?_ (by first | (simp; done) | (simp; omega) | omega) _) | (refine Below.setCell ?_ (by first | (simp; done) | (simp; omega) | omega) _) | (refine Below.trans ?_ (Below.mono (by assumption) (by first | (simp; done) | (simp; omega) | omega)))))⟩
end Go.Proofs.YtghagmjpcebmjaaDoor
