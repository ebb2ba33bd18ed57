/-
  What the library's variables hold; numerals, padded numerals and angles as texts.
-/
import Derived.Test.YtmkmhljiajgibaaGreatDoorDec
import Derived.Lib.LaidTab
import Derived.Stop.LaidErr
namespace Go.Proofs.YtmkmhljiajgibaaGreatDoor
set_option linter.unusedVariables false
set_option linter.unusedSimpArgs false
open Go.RowKit
open Go.Lib (decDigits itoa)

/-- The library's table of powers. -/
def TabIn (w : World) : Prop := Lib.TabIs Tryz.prog w "internal/strconv.uint64pow10" .u64 Lib.pow10Tab
theorem TabIn.below {w w' : World} (h : TabIn w) (hb : Below w.heap.size w w') : TabIn w' := Lib.tabBelow_of_tabIs h w' hb
theorem TabIn.alloc {w : World} (h : TabIn w) (o : Obj) : TabIn (w.alloc o) := h.below ((Below.refl _ _).alloc (Nat.le_refl _) o)
theorem TabIn.drewN {w : World} (h : TabIn w) (n : Nat) : TabIn (w.drewN n) := h.below ((Below.refl _ _).drewN n)
theorem var_below {P : Program} {w w' : World} {n : String} {cs : Array Value} (h : w.var? P n = some cs) (hb : Below w.heap.size w w') : w'.var? P n = some cs := by
  unfold World.var? at h ⊢
  cases hg : P.globalNamed n with
  | none => simp [hg] at h
  | some g =>
    simp only [hg, Option.bind_some] at h ⊢
    have hlt : g < w.heap.size := by
      rcases Nat.lt_or_ge g w.heap.size with h' | h'
      · exact h'
      · simp [Array.getElem?_eq_none h'] at h
    rw [hb.block g hlt]
    exact h
/-- The two errors of the library. -/
def ErrIn (w : World) : Prop := (∃ tp p, w.var? Tryz.prog "strconv.ErrSyntax" = some #[.iface tp p]) ∧ ∃ tp p, w.var? Tryz.prog "strconv.ErrRange" = some #[.iface tp p]
theorem ErrIn.below {w w' : World} (h : ErrIn w) (hb : Below w.heap.size w w') : ErrIn w' := by
  obtain ⟨⟨a, b, h1⟩, c, d, h2⟩ := h
  exact ⟨⟨a, b, var_below h1 hb⟩, c, d, var_below h2 hb⟩
theorem ErrIn.alloc {w : World} (h : ErrIn w) (o : Obj) : ErrIn (w.alloc o) := h.below ((Below.refl _ _).alloc (Nat.le_refl _) o)
theorem ErrIn.drewN {w : World} (h : ErrIn w) (n : Nat) : ErrIn (w.drewN n) := h.below ((Below.refl _ _).drewN n)
theorem gTab : Tryz.prog.globalNamed "internal/strconv.uint64pow10" = some 5 := by kernel_rfl
theorem gTabType : (Tryz.prog.globals[5]?).map (·.type) = some 124 := by kernel_rfl
theorem cellsTab : Tryz.prog.cellsOf 124 = 20 := by kernel_rfl
theorem cellsU64 : Tryz.prog.cellsOf 61 = 1 := by kernel_rfl
set_option maxRecDepth 100000 in
theorem tabOf {W : World} {rest : List (String × DataW Unit)} (h : laidMet Tryz.prog (("internal/strconv.uint64pow10", Rows.laid_internal_strconv_uint64pow10) :: rest) W) : TabIn W :=
  Lib.tabIs_of_head gTab gTabType Tryz.underlying124 Tryz.underlying61 cellsU64 cellsTab h
theorem gES : Tryz.prog.globalNamed "strconv.ErrSyntax" = some 3 := by kernel_rfl
theorem gESType : (Tryz.prog.globals[3]?).map (·.type) = some 78 := by kernel_rfl
theorem gER : Tryz.prog.globalNamed "strconv.ErrRange" = some 4 := by kernel_rfl
theorem gERType : (Tryz.prog.globals[4]?).map (·.type) = some 78 := by kernel_rfl
theorem cellsES : Tryz.prog.cellsOf 137 = 1 := by kernel_rfl
theorem cellsStr : Tryz.prog.cellsOf 9 = 1 := by kernel_rfl
theorem starES : "*" ++ "errors.errorString" = "*errors.errorString" := by decide
theorem rowES (u : TypeId) (h : Tryz.prog.typeName? 3 u = some "*errors.errorString") : u = 135 :=
  typeName_ptr_named (nm := "errors.errorString") (by rw [starES]; kernel_rfl) (by kernel_rfl) (by decide) u (by rw [starES]; exact h)
theorem errOf {W : World} {rest : List (String × DataW Unit)} (h : laidMet Tryz.prog (("strconv.ErrRange", Rows.laid_strconv_ErrRange) :: ("strconv.ErrSyntax", Rows.laid_strconv_ErrSyntax) :: rest) W) : ErrIn W := by
  obtain ⟨a0, s0, hv0, -, -, -⟩ := laid_sentinel h gER gERType Tryz.underlying78 rowES Tryz.underlying135 Tryz.underlying137 rfl rfl Tryz.underlying9 cellsES cellsStr
  obtain ⟨a1, s1, hv1, -, -, -⟩ := laid_sentinel h.tail gES gESType Tryz.underlying78 rowES Tryz.underlying135 Tryz.underlying137 rfl rfl Tryz.underlying9 cellsES cellsStr
  exact ⟨⟨_, _, hv1⟩, _, _, hv0⟩
set_option maxRecDepth 100000 in
theorem facts_3 {W : World} (h : laidMetH Tryz.prog [("math/bits.deBruijn32tab", Rows.laid_math_bits_deBruijn32tab), ("math/bits.deBruijn64tab", Rows.laid_math_bits_deBruijn64tab), ("internal/strconv.uint64pow10", Rows.laid_internal_strconv_uint64pow10)] W) : TabIn W := by
  have h' : laidMet Tryz.prog [("math/bits.deBruijn32tab", Rows.laid_math_bits_deBruijn32tab), ("math/bits.deBruijn64tab", Rows.laid_math_bits_deBruijn64tab), ("internal/strconv.uint64pow10", Rows.laid_internal_strconv_uint64pow10)] W := h
  exact tabOf h'.tail.tail
set_option maxRecDepth 100000 in
theorem facts_5 {W : World} (h : laidMetH Tryz.prog [("math/bits.deBruijn32tab", Rows.laid_math_bits_deBruijn32tab), ("math/bits.deBruijn64tab", Rows.laid_math_bits_deBruijn64tab), ("internal/strconv.uint64pow10", Rows.laid_internal_strconv_uint64pow10), ("strconv.ErrRange", Rows.laid_strconv_ErrRange), ("strconv.ErrSyntax", Rows.laid_strconv_ErrSyntax)] W) : TabIn W ∧ ErrIn W := by
  have h' : laidMet Tryz.prog [("math/bits.deBruijn32tab", Rows.laid_math_bits_deBruijn32tab), ("math/bits.deBruijn64tab", Rows.laid_math_bits_deBruijn64tab), ("internal/strconv.uint64pow10", Rows.laid_internal_strconv_uint64pow10), ("strconv.ErrRange", Rows.laid_strconv_ErrRange), ("strconv.ErrSyntax", Rows.laid_strconv_ErrSyntax)] W := h
  exact ⟨tabOf h'.tail.tail, errOf h'.tail.tail.tail⟩
theorem shFormat (n : Int) (w : World) (h0 : -9223372036854775808 ≤ n) (h1 : n ≤ 9223372036854775807) (hT : TabIn w) :
    Calls Tryz.prog 56 #[.int .i64 n, .int .i64 10] w fun e w' => e = .returned (.string (tx (itoa n))) ∧ Below w.heap.size w w' :=
  (Tryz.strconv_FormatInt_10 n h0 h1 w hT).mono fun e w' ⟨he, k, os, hw⟩ => ⟨he, hw ▸ Lib.below_grow _ w (Nat.le_refl _) k os⟩
theorem iDecimal (n : Int) (w : World) (h0 : -9223372036854775808 ≤ n) (h1 : n ≤ 9223372036854775807) (hT : TabIn w) :
    Calls Tryz.prog 44 #[.int .i64 n] w fun e w' => e = .returned (.string (tx (itoa n))) ∧ Below w.heap.size w w' := by
  go_enter Tryz.func44, Tryz.ntmps44
  go_wp2_with (go_at_call 56; (with_reducible refine (shFormat _ _ (by omega) (by omega) (by assumption)).mono ?_); rintro e w' ⟨rfl, hb⟩; have hs := hb.size; (try simp at hs); (try have hz : w.heap.size < w'.heap.size := by omega); (try have hy : w.heap.size < w'.heap.size + 1 := by omega); (try have hyy : w.heap.size < w'.heap.size + 1 + 1 := by omega); (try have hz1 : w.heap.size + 1 < w'.heap.size := by omega); (try have hn : ¬ w'.heap.size = w.heap.size := by omega); (try have hn1 : ¬ w'.heap.size = w.heap.size + 1 := by omega); (try have hz2 : w.heap.size + 1 + 1 < w'.heap.size := by omega); (try have hq := Nat.lt_of_lt_of_le (by assumption) hs); (try have hq := Nat.lt_of_succ_le hs); obtain ⟨hc, hf⟩ := bcell hb; (try simp only [World.size_drew, World.cell?_drew, World.frozen?_drew, World.heap_drewN, World.cell?_drewN, World.frozen?_drewN] at hc hf))
  go_ret
  exact ⟨rfl, by (repeat (first | exact Below.refl _ _ | assumption | (refine Below.drewN ?_ _) | (refine Below.drew ?_) | (refine Below.alloc ?_ (by first | (simp; done) | (simp; omega) | omega) _) | (refine Below.setCell ?_ (by first | (simp; done) | (simp; omega) | omega) _) | (refine Below.trans ?_ (Below.mono (by assumption) (by first | (simp; done) | (simp; omega) | omega)))))⟩
theorem sz_of {S : ByteArray} {l : List UInt8} (h : S = tx l) (hl : l.length ≤ 40) : S.size ≤ 40 := by rw [h, tx_size]; exact hl
/-- A numeral with noughts ahead of it. -/
def pd (k : Nat) (l : List UInt8) : List UInt8 := List.replicate (k - l.length) 48 ++ l
theorem pd_done {k : Nat} {l : List UInt8} (h : k ≤ l.length) : pd k l = l := by unfold pd; rw [Nat.sub_eq_zero_of_le h]; rfl
theorem pd_step {k : Nat} {l : List UInt8} (h : l.length < k) : pd k (48 :: l) = pd k l := by
  unfold pd
  rw [show k - l.length = (k - (48 :: l).length) + 1 by simp; omega, List.replicate_succ', List.append_assoc]; rfl
theorem itoa_len {n : Int} (h0 : -9223372036854775808 ≤ n) (h1 : n ≤ 9223372036854775807) : (itoa n).length ≤ 21 := by
  by_cases h : n < 0
  · rw [itoa_neg h]; have := dd_len20 (N := n.natAbs) (by omega); simp; omega
  · rw [itoa_pos (by omega)]; have := dd_len20 (N := n.natAbs) (by omega); omega
theorem pd_len (k : Nat) (l : List UInt8) : (pd k l).length = max k l.length := by unfold pd; simp; omega
end Go.Proofs.YtmkmhljiajgibaaGreatDoor
