/-
  Contracts of decimal numerals: the program's and the reference's.
-/
import Derived.Test.YtmkmhljiajgibaaGreatDoorBase
import Derived.Test.YtmkmhljiajgibaaGreatDoorMdec
import Derived.Test.YtmkmhljiajgibaaGreatDoorShelf
import Derived.Lib.AppendIntMem
import Derived.Maps.AppendAt
import Derived.Deep.AppendLies
import Derived.Laws.Concat
import Derived.Laws.IdiomStrings
import Derived.OwnWalk
import Derived.Lib.Hide
import Derived.WalkLawsBesides
namespace Go.Proofs.YtmkmhljiajgibaaGreatDoor
set_option linter.unusedVariables false
set_option linter.unusedSimpArgs false
open Go.RowKit
open Go.Lib (decDigits itoa)

/-- A text out of its bytes. -/
def tx (l : List UInt8) : ByteArray := ⟨l.toArray⟩
theorem tx_size (l : List UInt8) : (tx l).size = l.length := by show l.toArray.size = _; simp
theorem tx_cat (a b : List UInt8) : tx a ++ tx b = tx (a ++ b) := ByteArray.mk_append_mk a b
theorem tx_list (l : List UInt8) : (tx l).data.toList = l := by simp [tx]
theorem tx_of (s : ByteArray) : s = tx s.data.toList := by obtain ⟨⟨l⟩⟩ := s; rfl
theorem ret_s {a b : ByteArray} (h : a = b) : Ending.returned (.string a) = .returned (.string b) := by rw [h]
/-- What the call owns: bytes. -/
def bv (l : List UInt8) : List Value := l.map fun b => Value.int .u8 (b.toNat : Int)
def Own (w : World) (B : Nat) (v : Value) (l : List UInt8) : Prop := w.ownsRow B 5 1 v l.length (bv l)
theorem Own.snoc {w : World} {B : Nat} {v : Value} {l : List UInt8} {c : Int} {b : UInt8} (h : w.ownsRow B 5 1 v (l.length + 1) (bv l ++ [.int .u8 c])) (e : c = (b.toNat : Int)) : Own w B v (l ++ [b]) := by
  subst e
  unfold Own bv
  rw [List.length_append, List.map_append]
  exact h
theorem Own.form {w : World} {B : Nat} {v : Value} {l : List UInt8} (h : Own w B v l) (hn : 0 < l.length) : ∃ g cap, v = .slice (some ⟨g, 0, none⟩) l.length cap ∧ g < w.heap.size ∧ ∀ j (hj : j < l.length), w.cell? ⟨g, j, none⟩ = some (.int .u8 (l[j].toNat : Int)) := by
  obtain ⟨g, cap, e, h1, h2⟩ := World.ownsRow.form h hn
  refine ⟨g, cap, e, h2, fun j hj => ?_⟩
  have hc := World.ownsRow.cells h (g := g) (by rw [e]; rfl) j (.int .u8 (l[j].toNat : Int)) (by simp [bv, List.getElem?_eq_getElem hj])
  have hadd : (⟨g, 0, none⟩ : Addr).add j = ⟨g, j, none⟩ := by unfold Addr.add; split <;> simp_all
  rwa [hadd] at hc
section
variable {P : Program}
/-- append of one element that has just been laid, onto what the call owns. -/
theorem wpApp1 {wr : World} {ops : Array Oper} {rest : List Oper} {o : Oper} {a : Act} {Q : Exit → Act → World → Prop} (hgd : o.guard = none) (s x : Operand) (t : TypeId)
    (ho : o.op = .call { callee := .builtin .append, args := #[s, x], argTypes := #[t, t] })
    (B : Nat) (e : TypeId) (i : TypeInfo) (z : Value) (bytes : Nat) (ht : P.underlying t = some (.slice e)) (hi : P.info? e = some i) (hz : i.zero = some z)
    (hsize : i.size = 1) (hby : i.bytes = bytes) (hzs : z.cells.size = 1)
    (v : Value) (n : Nat) (xs : List Value) (hs : a.eval s = v) (hown : wr.ownsRow B e 1 v n xs) (u : Value) (hu : u.oneCell' = true)
    (hx : a.eval x = .slice (some ⟨wr.heap.size, 0, none⟩) 1 1) (hb : (n + 1) * bytes ≤ 140737488355328) (h63 : n + 1 ≤ maxLen) (hB : B ≤ wr.heap.size)
    (h : ∀ v' w', w'.ownsRow B e 1 v' (n + 1) (xs ++ [u]) → Below B wr w' → wr.heap.size < w'.heap.size → wpList P ops Q rest (a.put o.dst v') w') :
    wpList P ops Q (o :: rest) a (wr.alloc (.cells #[u] e)) := by
  refine wpList_append_own_at (wr.alloc (.cells #[u] e)) hgd s x t ho B e i z 1 bytes ht hi hz hsize hby hzs (by decide) v n xs hs (hown.alloc _) ⟨wr.heap.size, 0, none⟩ 1 1 [u] hx rfl ?_ ?_ h63 hb (by simp; omega) ?_
  · intro j u' hu'
    exact World.news_of_block (heap_alloc_new wr (.cells #[u] e)) j u' (by simpa using hu')
  · intro u' hu'
    simp only [List.mem_singleton] at hu'
    subst hu'
    exact hu
  · intro v' w' h1 h2 _ _
    refine h v' w' h1 ?_ (by have := h2.size; simp at this; omega)
    exact (((Below.refl B wr).alloc hB _).grown h2 (by simp; omega) (fun k hk => (hown.lt k hk).1))
end
/-- The digits of a number; none of nought. -/
def dd0 (u : Nat) : List UInt8 := if u = 0 then [] else decDigits u
theorem dd0_0 : dd0 0 = [] := rfl
theorem dd0_pos {u : Nat} (h : u ≠ 0) : dd0 u = decDigits u := if_neg h
theorem dd0_step {u k d : Nat} (h : u ≠ 0) (e : u = 10 * k + d) (hd : d < 10) : dd0 u = dd0 k ++ [UInt8.ofNat (48 + d)] := by
  rw [dd0_pos h]
  by_cases g : u < 10
  · obtain rfl : k = 0 := by omega
    rw [dd_small g, dd0_0, show u = d by omega]; rfl
  · rw [dd_big g, dd0_pos (by omega), show u / 10 = k by omega, show u % 10 = d by omega]
/-- While digits are gathered. -/
def Gath (N : Nat) (U : Int) (ds : List UInt8) : Prop := 0 ≤ U ∧ dd0 U.toNat ++ ds.reverse = decDigits N
theorem Gath.start {N : Nat} {U : Int} (e : U = N) (h : N ≠ 0) : Gath N U [] := ⟨by omega, by rw [show U.toNat = N by omega, dd0_pos h]; simp⟩
theorem Gath.step {N : Nat} {U K D : Int} {ds : List UInt8} (h : Gath N U ds) (hu : 0 < U) (e : U = 10 * K + D) (d0 : 0 ≤ D) (d1 : D ≤ 9) (k0 : 0 ≤ K) : Gath N K (ds ++ [UInt8.ofNat (48 + D.toNat)]) := by
  refine ⟨k0, ?_⟩
  rw [← h.2, dd0_step (u := U.toNat) (k := K.toNat) (d := D.toNat) (by omega) (by omega) (by omega)]
  simp
theorem Gath.done {N : Nat} {ds : List UInt8} (h : Gath N 0 ds) : ds.reverse = decDigits N := by have := h.2; simpa [dd0_0] using this
theorem Gath.len {N : Nat} {U : Int} {ds : List UInt8} (h : Gath N U ds) : ds.length ≤ (decDigits N).length := by
  have := congrArg List.length h.2
  simp at this
  omega
theorem dd_len20 {N : Nat} (h : N < 100000000000000000000) : (decDigits N).length ≤ 20 := dd_len_lt (k := 20) (by simpa using h) (by omega)
theorem dgt {D : Int} (d0 : 0 ≤ D) (d1 : D ≤ 9) : 48 + D = ((UInt8.ofNat (48 + D.toNat)).toNat : Int) := by rw [ofNat_dg (by omega)]; omega
theorem infoU8 : (Tryz.prog.info? 5).map (fun i => (i.zero, i.size, i.bytes)) = some (some (.int .u8 0), 1, 1) := by kernel_rfl
theorem Own.nil (w : World) (B : Nat) (h : B ≤ w.heap.size) : Own (w.alloc (.cells #[] 5)) B (.slice (some ⟨w.heap.size, 0, none⟩) 0 0) [] :=
  World.ownsRow_made w #[] 0 h (by decide) rfl
theorem rev_step {l : List UInt8} {k p : Nat} (hk : k < l.length) (hp : p + k + 1 = l.length) : l.reverse.take (k + 1) = l.reverse.take k ++ [l[p]'(by omega)] := by
  rw [List.take_add_one, List.getElem?_eq_getElem (by simpa using hk)]
  congr 1
  simp only [Option.toList_some, List.cons.injEq, and_true, List.getElem_reverse]
  congr 1
  omega
end Go.Proofs.YtmkmhljiajgibaaGreatDoor
