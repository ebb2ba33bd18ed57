/-
  Contracts of decimal numerals: the program's and the reference's.
-/
import Derived.Test.YtghagmjpcebmjaaDoorBase
import Derived.Test.YtghagmjpcebmjaaDoorMdec
import Derived.Test.YtghagmjpcebmjaaDoorShelf
import Derived.Lib.AppendIntMem
import Derived.Maps.AppendAt
import Derived.Deep.AppendLies
import Derived.Laws.Concat
import Derived.Laws.IdiomStrings
import Derived.OwnWalk
import Derived.Lib.Hide
import Derived.WalkLawsBesides
namespace Go.Proofs.YtghagmjpcebmjaaDoor
set_option linter.unusedVariables false
set_option linter.unusedSimpArgs false
open Go.RowKit
open Go.Lib (decDigits itoa)

/-- A text out of its bytes. -/
def tx (l : List UInt8) : ByteArray := ⟨l.toArray⟩
theorem tx_size (l : List UInt8) : (tx l).size = l.length := by show l.toArray.size = _; simp
theorem tx_cat (a b : List UInt8) : tx a ++ tx b = tx (a ++ b) := ByteArray.mk_append_mk a b
theorem tx_list (l : List UInt8) : (tx l).data.toList = l := by simp [tx]
theorem tx_of (s : ByteArray) : s = tx s.data.toList := by obtain ⟨⟨l⟩⟩ := s; rfl
theorem ret_s {a b : ByteArray} (h : a = b) : Ending.returned (.string a) = .returned (.string b) := by rw [h]
/-- What the call owns: bytes. -/
def bv (l : List UInt8) : List Value := l.map fun b => Value.int .u8 (b.toNat : Int)
def Own (w : World) (B : Nat) (v : Value) (l : List UInt8) : Prop := w.ownsRow B 5 1 v l.length (bv l)
theorem Own.snoc {w : World} {B : Nat} {v : Value} {l : List UInt8} {c : Int} {b : UInt8} (h : w.ownsRow B 5 1 v (l.length + 1) (bv l ++ [.int .u8 c])) (e : c = (b.toNat : Int)) : Own w B v (l ++ [b]) := by
  subst e
  unfold Own bv
  rw [List.length_append, List.map_append]
  exact h
theorem Own.form {w : World} {B : Nat} {v : Value} {l : List UInt8} (h : Own w B v l) (hn : 0 < l.length) : ∃ g cap, v = .slice (some ⟨g, 0, none⟩) l.length cap ∧ g < w.heap.size ∧ ∀ j (hj : j < l.length), w.cell? ⟨g, j, none⟩ = some (.int .u8 (l[j].toNat : Int)) := by
  obtain ⟨g, cap, e, h1, h2⟩ := World.ownsRow.form h hn
  refine ⟨g, cap, e, h2, fun j hj => ?_⟩
  have hc := World.ownsRow.cells h (g := g) (by rw [e]; rfl) j (.int .u8 (l[j].toNat : Int)) (by simp [bv, List.getElem?_eq_getElem hj])
  have hadd : (⟨g, 0, none⟩ : Addr).add j = ⟨g, j, none⟩ := by unfold Addr.add; split <;> simp_all
  rwa [hadd] at hc
section
variable {P : Program}
/-- append of one element that has just been laid, onto what the call owns. -/
theorem wpApp1 {wr : World} {ops : Array Oper} {rest : List Oper} {o : Oper} {a : Act} {Q : Exit → Act → World → Prop} (hgd : o.guard = none) (s x : Operand) (t : TypeId)
    (ho : o.op = .call { callee := .builtin .append, args := #[s, x], argTypes := #[t, t] })
    (B : Nat) (e : TypeId) (i : TypeInfo) (z : Value) (bytes : Nat) (ht : P.underlying t = some (.slice e)) (hi : P.info? e = some i) (hz : i.zero = some z)
    (hsize : i.size = 1) (hby : i.bytes = bytes) (hzs : z.cells.size = 1)
    (v : Value) (n : Nat) (xs : List Value) (hs : a.eval s = v) (hown : wr.ownsRow B e 1 v n xs) (u : Value) (hu : u.oneCell' = true)
    (hx : a.eval x = .slice (some ⟨wr.heap.size, 0, none⟩) 1 1) (hb : (n + 1) * bytes ≤ 140737488355328) (h63 : n + 1 ≤ maxLen) (hB : B ≤ wr.heap.size)
    (h : ∀ v' w', w'.ownsRow B e 1 v' (n + 1) (xs ++ [u]) → Below B wr w' → wr.heap.size < w'.heap.size → wpList P ops Q rest (a.put o.dst v') w') :
    wpList P ops Q (o :: rest) a (wr.alloc (.cells #[u] e)) := by
  refine wpList_append_own_at (wr.alloc (.cells #[u] e)) hgd s x t ho B e i z 1 bytes ht hi hz hsize hby hzs (by decide) v n xs hs (hown.alloc _) ⟨wr.heap.size, 0, none⟩ 1 1 [u] hx rfl ?_ ?_ h63 hb (by simp; omega) ?_
  · intro j u' hu'
    exact World.news_of_block (heap_alloc_new wr (.cells #[u] e)) j u' (by simpa using hu')
  · intro u' hu'
    simp only [List.mem_singleton] at hu'
    subst hu'
    exact hu
  · intro v' w' h1 h2 _ _
    refine h v' w' h1 ?_ (by have := h2.size; simp at this; omega)
    exact (((Below.refl B wr).alloc hB _).grown h2 (by simp; omega) (fun k hk => (hown.lt k hk).1))
end
/-- The digits of a number; none of nought. -/
def dd0 (u : Nat) : List UInt8 := if u = 0 then [] else decDigits u
theorem dd0_0 : dd0 0 = [] := rfl
theorem dd0_pos {u : Nat} (h : u ≠ 0) : dd0 u = decDigits u := if_neg h
theorem dd0_step {u k d : Nat} (h : u ≠ 0) (e : u = 10 * k + d) (hd : d < 10) : dd0 u = dd0 k ++ [UInt8.ofNat (48 + d)] := by
  rw [dd0_pos h]
  by_cases g : u < 10
  · obtain rfl : k = 0 := by omega
    rw [dd_small g, dd0_0, show u = d by omega]; rfl
  · rw [dd_big g, dd0_pos (by omega), show u / 10 = k by omega, show u % 10 = d by omega]
/-- While digits are gathered. -/
def Gath (N : Nat) (U : Int) (ds : List UInt8) : Prop := 0 ≤ U ∧ dd0 U.toNat ++ ds.reverse = decDigits N
theorem Gath.start {N : Nat} {U : Int} (e : U = N) (h : N ≠ 0) : Gath N U [] := ⟨by omega, by rw [show U.toNat = N by omega, dd0_pos h]; simp⟩
theorem Gath.step {N : Nat} {U K D : Int} {ds : List UInt8} (h : Gath N U ds) (hu : 0 < U) (e : U = 10 * K + D) (d0 : 0 ≤ D) (d1 : D ≤ 9) (k0 : 0 ≤ K) : Gath N K (ds ++ [UInt8.ofNat (48 + D.toNat)]) := by
  refine ⟨k0, ?_⟩
  rw [← h.2, dd0_step (u := U.toNat) (k := K.toNat) (d := D.toNat) (by omega) (by omega) (by omega)]
  simp
theorem Gath.done {N : Nat} {ds : List UInt8} (h : Gath N 0 ds) : ds.reverse = decDigits N := by have := h.2; simpa [dd0_0] using this
theorem Gath.len {N : Nat} {U : Int} {ds : List UInt8} (h : Gath N U ds) : ds.length ≤ (decDigits N).length := by
  have := congrArg List.length h.2
  simp at this
  omega
theorem dd_len20 {N : Nat} (h : N < 100000000000000000000) : (decDigits N).length ≤ 20 := dd_len_lt (k := 20) (by simpa using h) (by omega)
theorem dgt {D : Int} (d0 : 0 ≤ D) (d1 : D ≤ 9) : 48 + D = ((UInt8.ofNat (48 + D.toNat)).toNat : Int) := by rw [ofNat_dg (by omega)]; omega
theorem infoU8 : (Tryd.prog.info? 5).map (fun i => (i.zero, i.size, i.bytes)) = some (some (.int .u8 0), 1, 1) := by kernel_rfl
theorem Own.nil (w : World) (B : Nat) (h : B ≤ w.heap.size) : Own (w.alloc (.cells #[] 5)) B (.slice (some ⟨w.heap.size, 0, none⟩) 0 0) [] :=
  World.ownsRow_made w #[] 0 h (by decide) rfl
theorem rev_step {l : List UInt8} {k p : Nat} (hk : k < l.length) (hp : p + k + 1 = l.length) : l.reverse.take (k + 1) = l.reverse.take k ++ [l[p]'(by omega)] := by
  rw [List.take_add_one, List.getElem?_eq_getElem (by simpa using hk)]
  congr 1
  simp only [Option.toList_some, List.cons.injEq, and_true, List.getElem_reverse]
  congr 1
  omega
set_option maxRecDepth 100000 in
set_option maxHeartbeats 4000000 in
theorem sDecPos (n : Int) (w : World) (h1 : 0 < n) (h2 : n ≤ 9223372036854775807) :
    Calls Tryd.prog 56 #[.int .i64 n] w fun e w' => e = .returned (.string (tx (itoa n))) ∧ Below w.heap.size w w' := by
  have HN0 : Hid (0 < (itoa n).length) := by
    show _ < _
    rw [itoa_pos (by omega), Lib.decDigits_length]; exact Lib.nDigits_pos _
  have HN21 : Hid ((itoa n).length ≤ 21) := by
    show _ ≤ _
    rw [itoa_pos (by omega)]; have := dd_len20 (N := n.natAbs) (by omega); omega
  have Hd20 := Lib.hid (dd_len20 (N := n.natAbs) (by omega))
  have HI := Lib.hid (itoa_pos (show 0 ≤ n by omega))
  have HG : Hid (Gath n.natAbs n []) := Gath.start (by omega) (by omega)
  obtain ⟨i0', hi, hz0, hz1, hz2⟩ := info_parts infoU8
  have nn0 := Lib.hid (Own.nil w w.heap.size (Nat.le_refl _))
  have hb1 : (n == 0) = false := by simp; omega
  have hb2 : decide (n < 0) = false := by simp; omega
  go_enter Tryd.func56, Tryd.ntmps56
  go_wp2
  go_loopw [3, 4] (fun v m wr => ∃ (U : Int) (ds : List UInt8), m = .int .i64 U ∧ 0 ≤ U ∧ U ≤ n ∧ ds.length ≤ 20 ∧ Hid (Gath n.natAbs U ds) ∧ Below w.heap.size w wr ∧ w.heap.size ≤ wr.heap.size ∧ Hid (Own wr w.heap.size v ds)) (fun _ m _ => (intOf m).toNat)
  case atStart => exact ⟨n, [], rfl, by omega, by omega, by simp, HG, (Below.refl _ _).alloc (Nat.le_refl _) _, by simp, nn0⟩
  case round =>
    obtain ⟨U, L, rfl, hU0, hU, hds, HU, hbr, hsz, HO⟩ := hrel
    by_cases hUz : U = 0
    · subst hUz
      have HL : Hid (L.reverse = itoa n) := by show _ = _; rw [HI.out]; exact HU.out.done
      clear HU hds nn0 HG Hd20 HI
      rename World => wd
      have hl0 : 0 < L.length := by rw [← List.length_reverse, HL.out]; exact HN0.out
      obtain ⟨g, cap, rfl, hg, hcell⟩ := HO.out.form hl0
      have HC := Lib.hid hcell
      have hlen : L.length ≤ 21 := by rw [← List.length_reverse, HL.out]; exact HN21.out
      have nn := Lib.hid (Own.nil wd wd.heap.size (Nat.le_refl _))
      clear hcell HO
      obtain ⟨q, hn⟩ : ∃ q, L.length = q := ⟨_, rfl⟩
      rw [hn] at hl0 hlen
      have HN := Lib.hid hn
      simp only [hn]
      clear hn
      go_wp2
      go_loopw [6, 7] (fun o i wr => ∃ (k : Nat) (j : Int) (S : List UInt8), k ≤ q ∧ i = .int .i64 j ∧ j = q - 1 - k ∧ Below wd.heap.size wd wr ∧ wd.heap.size ≤ wr.heap.size ∧ Hid (S = L.reverse.take k) ∧ S.length = k ∧ Hid (Own wr wd.heap.size o S)) (fun _ i _ => (intOf i + 1).toNat)
      case atStart => exact ⟨0, _, [], by omega, rfl, by omega, (Below.refl _ _).alloc (Nat.le_refl _) _, by simp, rfl, rfl, nn⟩
      case round =>
        obtain ⟨k, j, S, hk, rfl, hj, hbr, hsz, HS, hS, HO⟩ := hrel
        by_cases hlt : k < q
        · obtain ⟨p, rfl⟩ := Int.eq_ofNat_of_zero_le (show 0 ≤ j by omega)
          have hp : p < q := by omega
          have hcp : wr.cell? ⟨g, p, none⟩ = some (.int .u8 (L[p]'(by rw [HN.out]; exact hp)).toNat) := ((bcell hbr).1 g p hg).trans (HC.out p (by rw [HN.out]; exact hp))
          have HE : Hid (L.reverse.take (k + 1) = L.reverse.take k ++ [L[p]'(by rw [HN.out]; exact hp)]) := rev_step (by rw [HN.out]; exact hlt) (by rw [HN.out]; omega)
          generalize L[p]'(by rw [HN.out]; exact hp) = b at *
          obtain ⟨c, hc⟩ : ∃ c : Int, c = (b.toNat : Int) := ⟨_, rfl⟩
          rw [← hc] at hcp
          have HB := Lib.hid hc
          clear hc
          have i0 : (0 : Int) ≤ p := by omega
          have i1 : (p : Int) < q := by omega
          have i2 : (p : Int).toNat = p := by omega
          have HJ := Lib.hid hj
          clear hj
          go_wp2_with (at_builtin; refine wpApp1 rfl (.tmp 41) (.tmp 46) _ rfl wd.heap.size 5 i0' _ 1 Tryd.underlying57 hi hz0 hz1 hz2 rfl _ _ _ (by rfl) HO.out (.int .u8 c) rfl (by rfl) (by rw [hS]; omega) (by rw [hS]; unfold maxLen; omega) hsz ?_; intro v' w1 hown' hbel hgt)
          go_roundw
          case rel => exact ⟨k + 1, _, S ++ [b], by omega, rfl, by have := HJ.out; omega, hbr.trans hbel, by omega, by show _ = _; rw [HS.out]; exact HE.out.symm, by simp [hS], Own.snoc hown' HB.out⟩
          case measure => first | (simp [intOf]; done) | (simp [intOf]; omega)
        · obtain rfl : k = q := by omega
          obtain ⟨g', cap', rfl, hg', hcell'⟩ := HO.out.form (by omega)
          have hcv := run_convert_bytes_back (P := Tryd.prog) wr 57 9 5 ⟨g', 0, none⟩ cap' S Tryd.underlying57 Tryd.underlying5 Tryd.underlying9 (fun j hj => by rw [show (⟨g', 0, none⟩ : Addr).add j = ⟨g', j, none⟩ by unfold Addr.add; split <;> simp_all]; exact hcell' j hj)
          have HR : Hid (S = L.reverse) := by show _ = _; rw [HS.out, List.take_of_length_le (by simp [HN.out])]
          rw [hS] at hcv
          simp only [hS]
          have hj' : ¬ 0 ≤ j := by omega
          clear hcell'
          go_wp2
          go_ret
          exact ⟨ret_s (by rw [HR.out, HL.out]; rfl), by (repeat (first | exact Below.refl _ _ | assumption | (refine Below.drewN ?_ _) | (refine Below.drew ?_) | (refine Below.alloc ?_ (by first | (simp; done) | (simp; omega) | omega) _) | (refine Below.setCell ?_ (by first | (simp; done) | (simp; omega) | omega) _) | (refine Below.trans ?_ (Below.mono (by assumption) (by first | (simp; done) | (simp; omega) | omega)))))⟩
    · obtain ⟨K, D, e, d0, d1, k0⟩ : ∃ K D : Int, U = 10 * K + D ∧ 0 ≤ D ∧ D ≤ 9 ∧ 0 ≤ K := ⟨U / 10, U % 10, by omega, by omega, by omega, by omega⟩
      have HU' := Lib.hid (HU.out.step (by omega) e d0 d1 k0)
      have hl' := Nat.le_trans HU'.out.len Hd20.out
      simp only [List.length_append, List.length_cons, List.length_nil] at hl'
      have t1 : U.tmod 10 = D := by rw [tmod_nonneg _ hU0]; omega
      have t2 : U.tdiv 10 = K := by rw [tdiv_nonneg _ hU0]; omega
      have HD := Lib.hid (dgt d0 d1)
      have hds' : L.length ≤ 19 := by omega
      have k1 : K ≤ 1000000000000000000 := by omega
      have HE := Lib.hid e
      clear e
      clear hl' HU
      go_wp2_with (at_builtin; refine wpApp1 rfl (.tmp 22) (.tmp 26) _ rfl w.heap.size 5 i0' _ 1 Tryd.underlying57 hi hz0 hz1 hz2 rfl _ _ _ (by rfl) HO.out (.int .u8 (48 + D)) rfl (by rfl) (by omega) (by unfold maxLen; omega) hsz ?_; intro v' w1 hown' hbel hgt)
      go_roundw
      case rel => exact ⟨K, _, rfl, k0, by have := HE.out; omega, by simp; omega, HU', hbr.trans hbel, by omega, Own.snoc hown' HD.out⟩
      case measure => have := HE.out; simp [intOf]; omega
set_option maxRecDepth 100000 in
set_option maxHeartbeats 4000000 in
theorem sDecNeg (n : Int) (w : World) (h1 : n < 0) (h2 : -9223372036854775808 ≤ n) :
    Calls Tryd.prog 56 #[.int .i64 n] w fun e w' => e = .returned (.string (tx (itoa n))) ∧ Below w.heap.size w w' := by
  have HN0 : Hid (0 < (itoa n).length) := by
    show _ < _
    rw [itoa_neg h1]; simp
  have HN21 : Hid ((itoa n).length ≤ 21) := by
    show _ ≤ _
    rw [itoa_neg h1]; simp only [List.length_cons]; have := dd_len20 (N := n.natAbs) (by omega); omega
  have Hd20 := Lib.hid (dd_len20 (N := n.natAbs) (by omega))
  have HI := Lib.hid (itoa_neg h1)
  have HG : Hid (Gath n.natAbs (-n) []) := Gath.start (by omega) (by omega)
  obtain ⟨i0', hi, hz0, hz1, hz2⟩ := info_parts infoU8
  have nn0 := Lib.hid (Own.nil w w.heap.size (Nat.le_refl _))
  have hb1 : (n == 0) = false := by simp; omega
  have hb2 : decide (n < 0) = true := by simp; omega
  go_enter Tryd.func56, Tryd.ntmps56
  go_wp2
  go_loopw [3, 4] (fun v m wr => ∃ (U : Int) (ds : List UInt8), m = .int .i64 (-U) ∧ 0 ≤ U ∧ U ≤ 9223372036854775808 ∧ ds.length ≤ 20 ∧ Hid (Gath n.natAbs U ds) ∧ Below w.heap.size w wr ∧ w.heap.size ≤ wr.heap.size ∧ Hid (Own wr w.heap.size v ds)) (fun _ m _ => (-(intOf m)).toNat)
  case atStart => exact ⟨-n, [], by rw [Int.neg_neg], by omega, by omega, by simp, HG, (Below.refl _ _).alloc (Nat.le_refl _) _, by simp, nn0⟩
  case round =>
    obtain ⟨U, L, rfl, hU0, hU, hds, HU, hbr, hsz, HO⟩ := hrel
    by_cases hUz : U = 0
    · subst hUz
      have HL0 : Hid ((L ++ [45]).reverse = itoa n) := by show _ = _; rw [HI.out, List.reverse_append, HU.out.done]; rfl
      go_wp2_with (at_builtin; refine wpApp1 rfl (.tmp 30) (.tmp 31) _ rfl w.heap.size 5 i0' _ 1 Tryd.underlying57 hi hz0 hz1 hz2 rfl _ _ _ (by rfl) HO.out (.int .u8 45) rfl (by rfl) (by omega) (by unfold maxLen; omega) hsz ?_; intro v' wd hown' hbel hgt; clear HO; have hbrd := hbr.trans hbel; have hszd : w.heap.size ≤ wd.heap.size := (by omega); (obtain ⟨M, hM⟩ : ∃ M, M = L ++ [45] := ⟨_, rfl⟩); (have HO : Hid (Own wd w.heap.size v' M) := by rw [hM]; exact Own.snoc (b := 45) hown' rfl); (have HL : Hid (M.reverse = itoa n) := by rw [hM]; exact HL0); clear HL0 HU hM hown' nn0; (have hl0 : 0 < M.length := by rw [← List.length_reverse, HL.out]; exact HN0.out); (obtain ⟨g, cap, rfl, hg, hcell⟩ := HO.out.form hl0); have HC := Lib.hid hcell; (have hlen : M.length ≤ 21 := by rw [← List.length_reverse, HL.out]; exact HN21.out); have nn := Lib.hid (Own.nil wd wd.heap.size (Nat.le_refl _)); clear hcell HO; (obtain ⟨q, hn⟩ : ∃ q, M.length = q := ⟨_, rfl⟩); rw [hn] at hl0 hlen; have HN := Lib.hid hn; simp only [hn]; clear hn hbr hbel hgt)
      go_loopw [6, 7] (fun o i wr => ∃ (k : Nat) (j : Int) (S : List UInt8), k ≤ q ∧ i = .int .i64 j ∧ j = q - 1 - k ∧ Below wd.heap.size wd wr ∧ wd.heap.size ≤ wr.heap.size ∧ Hid (S = M.reverse.take k) ∧ S.length = k ∧ Hid (Own wr wd.heap.size o S)) (fun _ i _ => (intOf i + 1).toNat)
      case atStart => exact ⟨0, _, [], by omega, rfl, by omega, (Below.refl _ _).alloc (Nat.le_refl _) _, by simp, rfl, rfl, nn⟩
      case round =>
        obtain ⟨k, j, S, hk, rfl, hj, hbr, hsz, HS, hS, HO⟩ := hrel
        by_cases hlt : k < q
        · obtain ⟨p, rfl⟩ := Int.eq_ofNat_of_zero_le (show 0 ≤ j by omega)
          have hp : p < q := by omega
          have hcp : wr.cell? ⟨g, p, none⟩ = some (.int .u8 (M[p]'(by rw [HN.out]; exact hp)).toNat) := ((bcell hbr).1 g p hg).trans (HC.out p (by rw [HN.out]; exact hp))
          have HE : Hid (M.reverse.take (k + 1) = M.reverse.take k ++ [M[p]'(by rw [HN.out]; exact hp)]) := rev_step (by rw [HN.out]; exact hlt) (by rw [HN.out]; omega)
          generalize M[p]'(by rw [HN.out]; exact hp) = b at *
          obtain ⟨c, hc⟩ : ∃ c : Int, c = (b.toNat : Int) := ⟨_, rfl⟩
          rw [← hc] at hcp
          have HB := Lib.hid hc
          clear hc
          have i0 : (0 : Int) ≤ p := by omega
          have i1 : (p : Int) < q := by omega
          have i2 : (p : Int).toNat = p := by omega
          have HJ := Lib.hid hj
          clear hj
          go_wp2_with (at_builtin; refine wpApp1 rfl (.tmp 41) (.tmp 46) _ rfl wd.heap.size 5 i0' _ 1 Tryd.underlying57 hi hz0 hz1 hz2 rfl _ _ _ (by rfl) HO.out (.int .u8 c) rfl (by rfl) (by rw [hS]; omega) (by rw [hS]; unfold maxLen; omega) hsz ?_; intro v' w1 hown' hbel hgt)
          go_roundw
          case rel => exact ⟨k + 1, _, S ++ [b], by omega, rfl, by have := HJ.out; omega, hbr.trans hbel, by omega, by show _ = _; rw [HS.out]; exact HE.out.symm, by simp [hS], Own.snoc hown' HB.out⟩
          case measure => first | (simp [intOf]; done) | (simp [intOf]; omega)
        · obtain rfl : k = q := by omega
          obtain ⟨g', cap', rfl, hg', hcell'⟩ := HO.out.form (by omega)
          have hcv := run_convert_bytes_back (P := Tryd.prog) wr 57 9 5 ⟨g', 0, none⟩ cap' S Tryd.underlying57 Tryd.underlying5 Tryd.underlying9 (fun j hj => by rw [show (⟨g', 0, none⟩ : Addr).add j = ⟨g', j, none⟩ by unfold Addr.add; split <;> simp_all]; exact hcell' j hj)
          have HR : Hid (S = M.reverse) := by show _ = _; rw [HS.out, List.take_of_length_le (by simp [HN.out])]
          rw [hS] at hcv
          simp only [hS]
          have hj' : ¬ 0 ≤ j := by omega
          clear hcell'
          go_wp2
          go_ret
          exact ⟨ret_s (by rw [HR.out, HL.out]; rfl), by (repeat (first | exact Below.refl _ _ | assumption | (refine Below.drewN ?_ _) | (refine Below.drew ?_) | (refine Below.alloc ?_ (by first | (simp; done) | (simp; omega) | omega) _) | (refine Below.setCell ?_ (by first | (simp; done) | (simp; omega) | omega) _) | (refine Below.trans ?_ (Below.mono (by assumption) (by first | (simp; done) | (simp; omega) | omega)))))⟩
    · obtain ⟨K, D, e, d0, d1, k0⟩ : ∃ K D : Int, U = 10 * K + D ∧ 0 ≤ D ∧ D ≤ 9 ∧ 0 ≤ K := ⟨U / 10, U % 10, by omega, by omega, by omega, by omega⟩
      have HU' := Lib.hid (HU.out.step (by omega) e d0 d1 k0)
      have hl' := Nat.le_trans HU'.out.len Hd20.out
      simp only [List.length_append, List.length_cons, List.length_nil] at hl'
      have t2 : (-U).tdiv 10 = -K := by rw [tdiv_neg _ (by omega)]; omega
      have HD := Lib.hid (dgt d0 d1)
      have hUne : ¬ -U = 0 := by omega
      have hds' : L.length ≤ 19 := by omega
      have k1 : K ≤ 1000000000000000000 := by omega
      have HE := Lib.hid e
      clear e
      clear hl' HU
      by_cases hD0 : D = 0
      · have t1 : (-U).tmod 10 = 0 := by rw [tmod_neg _ (by omega)]; have := HE.out; omega
        replace HD : Hid (48 = ((UInt8.ofNat (48 + D.toNat)).toNat : Int)) := by have := HD.out; show _ = _; omega
        clear hD0
        go_wp2_with (at_builtin; refine wpApp1 rfl (.tmp 22) (.tmp 26) _ rfl w.heap.size 5 i0' _ 1 Tryd.underlying57 hi hz0 hz1 hz2 rfl _ _ _ (by rfl) HO.out (.int .u8 48) rfl (by rfl) (by omega) (by unfold maxLen; omega) hsz ?_; intro v' w1 hown' hbel hgt)
        go_roundw
        case rel => exact ⟨K, _, rfl, k0, by have := HE.out; omega, by simp; omega, HU', hbr.trans hbel, by omega, Own.snoc hown' HD.out⟩
        case measure => have := HE.out; simp [intOf]; omega
      · have t1 : (-U).tmod 10 = -D := by rw [tmod_neg _ (by omega)]; have := HE.out; omega
        have d2 : 1 ≤ D := by omega
        clear hD0
        go_wp2_with (at_builtin; refine wpApp1 rfl (.tmp 22) (.tmp 26) _ rfl w.heap.size 5 i0' _ 1 Tryd.underlying57 hi hz0 hz1 hz2 rfl _ _ _ (by rfl) HO.out (.int .u8 (48 + D)) rfl (by rfl) (by omega) (by unfold maxLen; omega) hsz ?_; intro v' w1 hown' hbel hgt)
        go_roundw
        case rel => exact ⟨K, _, rfl, k0, by have := HE.out; omega, by simp; omega, HU', hbr.trans hbel, by omega, Own.snoc hown' HD.out⟩
        case measure => have := HE.out; simp [intOf]; omega
end Go.Proofs.YtghagmjpcebmjaaDoor
