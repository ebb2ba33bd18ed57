/-
  What the library's variables hold; numerals, padded numerals and angles as texts.
-/
import Derived.Test.YtghagmjpcebmjaaDoorDec
import Derived.Lib.LaidTab
import Derived.Stop.LaidErr
namespace Go.Proofs.YtghagmjpcebmjaaDoor
set_option linter.unusedVariables false
set_option linter.unusedSimpArgs false
open Go.RowKit
open Go.Lib (decDigits itoa)

/-- The library's table of powers. -/
def TabIn (w : World) : Prop := Lib.TabIs Tryd.prog w "internal/strconv.uint64pow10" .u64 Lib.pow10Tab
theorem TabIn.below {w w' : World} (h : TabIn w) (hb : Below w.heap.size w w') : TabIn w' := Lib.tabBelow_of_tabIs h w' hb
theorem TabIn.alloc {w : World} (h : TabIn w) (o : Obj) : TabIn (w.alloc o) := h.below ((Below.refl _ _).alloc (Nat.le_refl _) o)
theorem TabIn.drewN {w : World} (h : TabIn w) (n : Nat) : TabIn (w.drewN n) := h.below ((Below.refl _ _).drewN n)
theorem var_below {P : Program} {w w' : World} {n : String} {cs : Array Value} (h : w.var? P n = some cs) (hb : Below w.heap.size w w') : w'.var? P n = some cs := by
  unfold World.var? at h ⊢
  cases hg : P.globalNamed n with
  | none => simp [hg] at h
  | some g =>
    simp only [hg, Option.bind_some] at h ⊢
    have hlt : g < w.heap.size := by
      rcases Nat.lt_or_ge g w.heap.size with h' | h'
      · exact h'
      · simp [Array.getElem?_eq_none h'] at h
    rw [hb.block g hlt]
    exact h
/-- The two errors of the library. -/
def ErrIn (w : World) : Prop := (∃ tp p, w.var? Tryd.prog "strconv.ErrSyntax" = some #[.iface tp p]) ∧ ∃ tp p, w.var? Tryd.prog "strconv.ErrRange" = some #[.iface tp p]
theorem ErrIn.below {w w' : World} (h : ErrIn w) (hb : Below w.heap.size w w') : ErrIn w' := by
  obtain ⟨⟨a, b, h1⟩, c, d, h2⟩ := h
  exact ⟨⟨a, b, var_below h1 hb⟩, c, d, var_below h2 hb⟩
theorem ErrIn.alloc {w : World} (h : ErrIn w) (o : Obj) : ErrIn (w.alloc o) := h.below ((Below.refl _ _).alloc (Nat.le_refl _) o)
theorem ErrIn.drewN {w : World} (h : ErrIn w) (n : Nat) : ErrIn (w.drewN n) := h.below ((Below.refl _ _).drewN n)
theorem gTab : Tryd.prog.globalNamed "internal/strconv.uint64pow10" = some 0 := by kernel_rfl
theorem gTabType : (Tryd.prog.globals[0]?).map (·.type) = some 125 := by kernel_rfl
theorem cellsTab : Tryd.prog.cellsOf 125 = 20 := by kernel_rfl
theorem cellsU64 : Tryd.prog.cellsOf 85 = 1 := by kernel_rfl
set_option maxRecDepth 100000 in
theorem tabOf {W : World} {rest : List (String × DataW Unit)} (h : laidMet Tryd.prog (("internal/strconv.uint64pow10", Rows.laid_internal_strconv_uint64pow10) :: rest) W) : TabIn W :=
  Lib.tabIs_of_head gTab gTabType Tryd.underlying125 Tryd.underlying85 cellsU64 cellsTab h
theorem gES : Tryd.prog.globalNamed "strconv.ErrSyntax" = some 1 := by kernel_rfl
theorem gESType : (Tryd.prog.globals[1]?).map (·.type) = some 79 := by kernel_rfl
theorem gER : Tryd.prog.globalNamed "strconv.ErrRange" = some 2 := by kernel_rfl
theorem gERType : (Tryd.prog.globals[2]?).map (·.type) = some 79 := by kernel_rfl
theorem cellsES : Tryd.prog.cellsOf 143 = 1 := by kernel_rfl
theorem cellsStr : Tryd.prog.cellsOf 9 = 1 := by kernel_rfl
theorem starES : "*" ++ "errors.errorString" = "*errors.errorString" := by decide
theorem rowES (u : TypeId) (h : Tryd.prog.typeName? 3 u = some "*errors.errorString") : u = 141 :=
  typeName_ptr_named (nm := "errors.errorString") (by rw [starES]; kernel_rfl) (by kernel_rfl) (by decide) u (by rw [starES]; exact h)
theorem errOf {W : World} {rest : List (String × DataW Unit)} (h : laidMet Tryd.prog (("strconv.ErrRange", Rows.laid_strconv_ErrRange) :: ("strconv.ErrSyntax", Rows.laid_strconv_ErrSyntax) :: rest) W) : ErrIn W := by
  obtain ⟨a0, s0, hv0, -, -, -⟩ := laid_sentinel h gER gERType Tryd.underlying79 rowES Tryd.underlying141 Tryd.underlying143 rfl rfl Tryd.underlying9 cellsES cellsStr
  obtain ⟨a1, s1, hv1, -, -, -⟩ := laid_sentinel h.tail gES gESType Tryd.underlying79 rowES Tryd.underlying141 Tryd.underlying143 rfl rfl Tryd.underlying9 cellsES cellsStr
  exact ⟨⟨_, _, hv1⟩, _, _, hv0⟩
set_option maxRecDepth 100000 in
theorem facts_3 {W : World} (h : laidMetH Tryd.prog [("math/bits.deBruijn32tab", Rows.laid_math_bits_deBruijn32tab), ("math/bits.deBruijn64tab", Rows.laid_math_bits_deBruijn64tab), ("internal/strconv.uint64pow10", Rows.laid_internal_strconv_uint64pow10)] W) : TabIn W := by
  have h' : laidMet Tryd.prog [("math/bits.deBruijn32tab", Rows.laid_math_bits_deBruijn32tab), ("math/bits.deBruijn64tab", Rows.laid_math_bits_deBruijn64tab), ("internal/strconv.uint64pow10", Rows.laid_internal_strconv_uint64pow10)] W := h
  exact tabOf h'.tail.tail
set_option maxRecDepth 100000 in
theorem facts_5 {W : World} (h : laidMetH Tryd.prog [("math/bits.deBruijn32tab", Rows.laid_math_bits_deBruijn32tab), ("math/bits.deBruijn64tab", Rows.laid_math_bits_deBruijn64tab), ("internal/strconv.uint64pow10", Rows.laid_internal_strconv_uint64pow10), ("strconv.ErrRange", Rows.laid_strconv_ErrRange), ("strconv.ErrSyntax", Rows.laid_strconv_ErrSyntax)] W) : TabIn W ∧ ErrIn W := by
  have h' : laidMet Tryd.prog [("math/bits.deBruijn32tab", Rows.laid_math_bits_deBruijn32tab), ("math/bits.deBruijn64tab", Rows.laid_math_bits_deBruijn64tab), ("internal/strconv.uint64pow10", Rows.laid_internal_strconv_uint64pow10), ("strconv.ErrRange", Rows.laid_strconv_ErrRange), ("strconv.ErrSyntax", Rows.laid_strconv_ErrSyntax)] W := h
  exact ⟨tabOf h'.tail.tail, errOf h'.tail.tail.tail⟩
theorem shFormat (n : Int) (w : World) (h0 : -9223372036854775808 ≤ n) (h1 : n ≤ 9223372036854775807) (hT : TabIn w) :
    Calls Tryd.prog 57 #[.int .i64 n, .int .i64 10] w fun e w' => e = .returned (.string (tx (itoa n))) ∧ Below w.heap.size w w' :=
  (Tryd.strconv_FormatInt_10 n h0 h1 w hT).mono fun e w' ⟨he, k, os, hw⟩ => ⟨he, hw ▸ Lib.below_grow _ w (Nat.le_refl _) k os⟩
theorem iDecimal (n : Int) (w : World) (h0 : -9223372036854775808 ≤ n) (h1 : n ≤ 9223372036854775807) (hT : TabIn w) :
    Calls Tryd.prog 16 #[.int .i64 n] w fun e w' => e = .returned (.string (tx (itoa n))) ∧ Below w.heap.size w w' := by
  go_enter Tryd.func16, Tryd.ntmps16
  go_wp2_with (go_at_call 57; (with_reducible refine (shFormat _ _ (by omega) (by omega) (by assumption)).mono ?_); rintro e w' ⟨rfl, hb⟩; have hs := hb.size; (try simp at hs); (try have hz : w.heap.size < w'.heap.size := by omega); (try have hy : w.heap.size < w'.heap.size + 1 := by omega); (try have hyy : w.heap.size < w'.heap.size + 1 + 1 := by omega); (try have hz1 : w.heap.size + 1 < w'.heap.size := by omega); (try have hn : ¬ w'.heap.size = w.heap.size := by omega); (try have hn1 : ¬ w'.heap.size = w.heap.size + 1 := by omega); (try have hz2 : w.heap.size + 1 + 1 < w'.heap.size := by omega); (try have hq := Nat.lt_of_lt_of_le (by assumption) hs); (try have hq := Nat.lt_of_succ_le hs); obtain ⟨hc, hf⟩ := bcell hb; (try simp only [World.size_drew, World.cell?_drew, World.frozen?_drew, World.heap_drewN, World.cell?_drewN, World.frozen?_drewN] at hc hf))
  go_ret
  exact ⟨rfl, by (repeat (first | exact Below.refl _ _ | assumption | (refine Below.drewN ?_ _) | (refine Below.drew ?_) | (refine Below.alloc ?_ (by first | (simp; done) | (simp; omega) | omega) _) | (refine Below.setCell ?_ (by first | (simp; done) | (simp; omega) | omega) _) | (refine Below.trans ?_ (Below.mono (by assumption) (by first | (simp; done) | (simp; omega) | omega)))))⟩
theorem sDecZero (w : World) :
    Calls Tryd.prog 56 #[.int .i64 0] w fun e w' => e = .returned (.string (tx (itoa 0))) ∧ Below w.heap.size w w' := by
  go_enter Tryd.func56, Tryd.ntmps56
  go_wp2
  go_ret
  exact ⟨ret_s (by rw [itoa_pos (by omega), show (0 : Int).natAbs = 0 from rfl, dd_small (by omega)]; rfl), by (repeat (first | exact Below.refl _ _ | assumption | (refine Below.drewN ?_ _) | (refine Below.drew ?_) | (refine Below.alloc ?_ (by first | (simp; done) | (simp; omega) | omega) _) | (refine Below.setCell ?_ (by first | (simp; done) | (simp; omega) | omega) _) | (refine Below.trans ?_ (Below.mono (by assumption) (by first | (simp; done) | (simp; omega) | omega)))))⟩
theorem sDec (n : Int) (w : World) (h0 : -9223372036854775808 ≤ n) (h1 : n ≤ 9223372036854775807) :
    Calls Tryd.prog 56 #[.int .i64 n] w fun e w' => e = .returned (.string (tx (itoa n))) ∧ Below w.heap.size w w' := by
  by_cases h : n < 0
  · exact sDecNeg n w h h0
  · by_cases g : n = 0
    · subst g; exact sDecZero w
    · exact sDecPos n w (by omega) h1
theorem sDecimal (n : Int) (w : World) (h0 : -9223372036854775808 ≤ n) (h1 : n ≤ 9223372036854775807) :
    Calls Tryd.prog 15 #[.int .i64 n] w fun e w' => e = .returned (.string (tx (itoa n))) ∧ Below w.heap.size w w' := by
  go_enter Tryd.func15, Tryd.ntmps15
  go_wp2_with (go_at_call 56; (with_reducible refine (sDec _ _ (by omega) (by omega)).mono ?_); rintro e w' ⟨rfl, hb⟩; have hs := hb.size; (try simp at hs); (try have hz : w.heap.size < w'.heap.size := by omega); (try have hy : w.heap.size < w'.heap.size + 1 := by omega); (try have hyy : w.heap.size < w'.heap.size + 1 + 1 := by omega); (try have hz1 : w.heap.size + 1 < w'.heap.size := by omega); (try have hn : ¬ w'.heap.size = w.heap.size := by omega); (try have hn1 : ¬ w'.heap.size = w.heap.size + 1 := by omega); (try have hz2 : w.heap.size + 1 + 1 < w'.heap.size := by omega); (try have hq := Nat.lt_of_lt_of_le (by assumption) hs); (try have hq := Nat.lt_of_succ_le hs); obtain ⟨hc, hf⟩ := bcell hb; (try simp only [World.size_drew, World.cell?_drew, World.frozen?_drew, World.heap_drewN, World.cell?_drewN, World.frozen?_drewN] at hc hf))
  go_ret
  exact ⟨rfl, by (repeat (first | exact Below.refl _ _ | assumption | (refine Below.drewN ?_ _) | (refine Below.drew ?_) | (refine Below.alloc ?_ (by first | (simp; done) | (simp; omega) | omega) _) | (refine Below.setCell ?_ (by first | (simp; done) | (simp; omega) | omega) _) | (refine Below.trans ?_ (Below.mono (by assumption) (by first | (simp; done) | (simp; omega) | omega)))))⟩
theorem walk_FnExactDecimal (a0 : Int) (w : World) (w0 : (Lit.int .i64 a0).wf = true) (hT : TabIn w) :
    Calls Tryd.prog 3 #[.int .i64 a0] w fun e w' => e = .returned (.bool true) ∧ Below w.heap.size w w' := by
  obtain ⟨h0, h1⟩ := bd64 w0
  clear w0
  have HT := Lib.hid hT
  clear hT
  go_enter Tryd.func3, Tryd.ntmps3
  go_wp2_with fail
  (with_reducible refine (sDecimal _ _ (by omega) (by omega)).mono ?_)
  rintro e W1 ⟨rfl, hb1⟩
  have hs1 := hb1.size
  (try simp at hs1)
  obtain ⟨hc1, hf1⟩ := bcell hb1
  (try have hz0_1 : w.heap.size < W1.heap.size := by omega)
  (try have hy0_1 : w.heap.size + 1 < W1.heap.size := by omega)
  go_wp2_with fail
  (with_reducible refine (iDecimal _ _ (by omega) (by omega) (HT.out.below hb1)).mono ?_)
  rintro e W2 ⟨rfl, hb2⟩
  have hs2 := hb2.size
  (try simp at hs2)
  obtain ⟨hc2, hf2⟩ := bcell hb2
  (try have hz0_2 : w.heap.size < W2.heap.size := by omega)
  (try have hy0_2 : w.heap.size + 1 < W2.heap.size := by omega)
  (try have hz1_2 : W1.heap.size < W2.heap.size := by omega)
  (try have hy1_2 : W1.heap.size + 1 < W2.heap.size := by omega)
  go_wp2
  go_ret
  exact ⟨rfl, by (repeat (first | exact Below.refl _ _ | assumption | (refine Below.drewN ?_ _) | (refine Below.drew ?_) | (refine Below.alloc ?_ (by first | (simp; done) | (simp; omega) | omega) _) | (refine Below.setCell ?_ (by first | (simp; done) | (simp; omega) | omega) _) | (refine Below.trans ?_ (Below.mono (by assumption) (by first | (simp; done) | (simp; omega) | omega)))))⟩
theorem sz_of {S : ByteArray} {l : List UInt8} (h : S = tx l) (hl : l.length ≤ 40) : S.size ≤ 40 := by rw [h, tx_size]; exact hl
/-- A numeral with noughts ahead of it. -/
def pd (k : Nat) (l : List UInt8) : List UInt8 := List.replicate (k - l.length) 48 ++ l
theorem pd_done {k : Nat} {l : List UInt8} (h : k ≤ l.length) : pd k l = l := by unfold pd; rw [Nat.sub_eq_zero_of_le h]; rfl
theorem pd_step {k : Nat} {l : List UInt8} (h : l.length < k) : pd k (48 :: l) = pd k l := by
  unfold pd
  rw [show k - l.length = (k - (48 :: l).length) + 1 by simp; omega, List.replicate_succ', List.append_assoc]; rfl
theorem itoa_len {n : Int} (h0 : -9223372036854775808 ≤ n) (h1 : n ≤ 9223372036854775807) : (itoa n).length ≤ 21 := by
  by_cases h : n < 0
  · rw [itoa_neg h]; have := dd_len20 (N := n.natAbs) (by omega); simp; omega
  · rw [itoa_pos (by omega)]; have := dd_len20 (N := n.natAbs) (by omega); omega
theorem pd_len (k : Nat) (l : List UInt8) : (pd k l).length = max k l.length := by unfold pd; simp; omega
set_option maxHeartbeats 1000000 in
theorem iPad (n : Int) (k : Nat) (w : World) (h0 : -9223372036854775808 ≤ n) (h1 : n ≤ 9223372036854775807) (hk : k ≤ 4) (hT : TabIn w) :
    Calls Tryd.prog 61 #[.int .i64 n, .int .i64 k] w fun e w' => e = .returned (.string (tx (pd k (itoa n)))) ∧ Below w.heap.size w w' := by
  have HL := Lib.hid (itoa_len h0 h1)
  go_enter Tryd.func61, Tryd.ntmps61
  go_wp2_with fail
  (with_reducible refine (iDecimal _ _ (by omega) (by omega) (by assumption)).mono ?_)
  rintro e W1 ⟨rfl, hb1⟩
  have hs1 := hb1.size
  (try simp at hs1)
  obtain ⟨hc1, hf1⟩ := bcell hb1
  (try have hz0_1 : w.heap.size < W1.heap.size := by omega)
  (try have hy0_1 : w.heap.size + 1 < W1.heap.size := by omega)
  go_wp2
  obtain ⟨S, hS⟩ : ∃ S, S = tx (itoa n) := ⟨_, rfl⟩
  rw [← hS]
  have HS := Lib.hid hS
  clear hS
  go_loop [5] (fun s => ∃ (S' : ByteArray) (l : List UInt8), s = .string S' ∧ S' = tx l ∧ l.length ≤ 30 ∧ Hid (pd k l = pd k (itoa n))) (fun s => match s with | .string S' => k - S'.size | _ => 0)
  case atStart => exact ⟨S, itoa n, rfl, HS.out, by have := HL.out; omega, rfl⟩
  case round =>
    obtain ⟨S', l, rfl, hS', hl, HP⟩ := hrel
    have hsz : S'.size = l.length := by rw [hS', tx_size]
    have HS' := Lib.hid hS'
    clear hS'
    by_cases hlt : l.length < k
    · go_wp2
      go_round
      case rel => exact ⟨_, 48 :: l, rfl, by rw [HS'.out]; exact tx_cat [48] l, by simp; omega, by show _ = _; rw [pd_step hlt]; exact HP.out⟩
      case measure =>
        have e1 : ((⟨#[48]⟩ : ByteArray) ++ S').size = 1 + S'.size := by rw [ByteArray.size_append']; rfl
        show k - ((⟨#[48]⟩ : ByteArray) ++ S').size < k - S'.size
        rw [e1]
        omega
    · go_wp2
      go_ret
      exact ⟨ret_s (by rw [HS'.out, ← HP.out, pd_done (by omega)]), by (repeat (first | exact Below.refl _ _ | assumption | (refine Below.drewN ?_ _) | (refine Below.drew ?_) | (refine Below.alloc ?_ (by first | (simp; done) | (simp; omega) | omega) _) | (refine Below.setCell ?_ (by first | (simp; done) | (simp; omega) | omega) _) | (refine Below.trans ?_ (Below.mono (by assumption) (by first | (simp; done) | (simp; omega) | omega)))))⟩
set_option maxHeartbeats 1000000 in
theorem sPad (n : Int) (k : Nat) (w : World) (h0 : -9223372036854775808 ≤ n) (h1 : n ≤ 9223372036854775807) (hk : k ≤ 4) :
    Calls Tryd.prog 90 #[.int .i64 n, .int .i64 k] w fun e w' => e = .returned (.string (tx (pd k (itoa n)))) ∧ Below w.heap.size w w' := by
  have HL := Lib.hid (itoa_len h0 h1)
  go_enter Tryd.func90, Tryd.ntmps90
  go_wp2_with fail
  (with_reducible refine (sDec _ _ (by omega) (by omega)).mono ?_)
  rintro e W1 ⟨rfl, hb1⟩
  have hs1 := hb1.size
  (try simp at hs1)
  obtain ⟨hc1, hf1⟩ := bcell hb1
  (try have hz0_1 : w.heap.size < W1.heap.size := by omega)
  (try have hy0_1 : w.heap.size + 1 < W1.heap.size := by omega)
  go_wp2
  obtain ⟨S, hS⟩ : ∃ S, S = tx (itoa n) := ⟨_, rfl⟩
  rw [← hS]
  have HS := Lib.hid hS
  clear hS
  go_loop [5] (fun s => ∃ (S' : ByteArray) (l : List UInt8), s = .string S' ∧ S' = tx l ∧ l.length ≤ 30 ∧ Hid (pd k l = pd k (itoa n))) (fun s => match s with | .string S' => k - S'.size | _ => 0)
  case atStart => exact ⟨S, itoa n, rfl, HS.out, by have := HL.out; omega, rfl⟩
  case round =>
    obtain ⟨S', l, rfl, hS', hl, HP⟩ := hrel
    have hsz : S'.size = l.length := by rw [hS', tx_size]
    have HS' := Lib.hid hS'
    clear hS'
    by_cases hlt : l.length < k
    · go_wp2
      go_round
      case rel => exact ⟨_, 48 :: l, rfl, by rw [HS'.out]; exact tx_cat [48] l, by simp; omega, by show _ = _; rw [pd_step hlt]; exact HP.out⟩
      case measure =>
        have e1 : ((⟨#[48]⟩ : ByteArray) ++ S').size = 1 + S'.size := by rw [ByteArray.size_append']; rfl
        show k - ((⟨#[48]⟩ : ByteArray) ++ S').size < k - S'.size
        rw [e1]
        omega
    · go_wp2
      go_ret
      exact ⟨ret_s (by rw [HS'.out, ← HP.out, pd_done (by omega)]), by (repeat (first | exact Below.refl _ _ | assumption | (refine Below.drewN ?_ _) | (refine Below.drew ?_) | (refine Below.alloc ?_ (by first | (simp; done) | (simp; omega) | omega) _) | (refine Below.setCell ?_ (by first | (simp; done) | (simp; omega) | omega) _) | (refine Below.trans ?_ (Below.mono (by assumption) (by first | (simp; done) | (simp; omega) | omega)))))⟩
theorem iPad2 (n : Int) (w : World) (h0 : -9223372036854775808 ≤ n) (h1 : n ≤ 9223372036854775807) (hT : TabIn w) :
    Calls Tryd.prog 61 #[.int .i64 n, .int .i64 2] w fun e w' => e = .returned (.string (tx (pd 2 (itoa n)))) ∧ Below w.heap.size w w' := iPad n 2 w h0 h1 (by omega) hT
theorem iPad3 (n : Int) (w : World) (h0 : -9223372036854775808 ≤ n) (h1 : n ≤ 9223372036854775807) (hT : TabIn w) :
    Calls Tryd.prog 61 #[.int .i64 n, .int .i64 3] w fun e w' => e = .returned (.string (tx (pd 3 (itoa n)))) ∧ Below w.heap.size w w' := iPad n 3 w h0 h1 (by omega) hT
theorem iPad4 (n : Int) (w : World) (h0 : -9223372036854775808 ≤ n) (h1 : n ≤ 9223372036854775807) (hT : TabIn w) :
    Calls Tryd.prog 61 #[.int .i64 n, .int .i64 4] w fun e w' => e = .returned (.string (tx (pd 4 (itoa n)))) ∧ Below w.heap.size w w' := iPad n 4 w h0 h1 (by omega) hT
theorem sPad2 (n : Int) (w : World) (h0 : -9223372036854775808 ≤ n) (h1 : n ≤ 9223372036854775807) :
    Calls Tryd.prog 90 #[.int .i64 n, .int .i64 2] w fun e w' => e = .returned (.string (tx (pd 2 (itoa n)))) ∧ Below w.heap.size w w' := sPad n 2 w h0 h1 (by omega)
theorem sPad3 (n : Int) (w : World) (h0 : -9223372036854775808 ≤ n) (h1 : n ≤ 9223372036854775807) :
    Calls Tryd.prog 90 #[.int .i64 n, .int .i64 3] w fun e w' => e = .returned (.string (tx (pd 3 (itoa n)))) ∧ Below w.heap.size w w' := sPad n 3 w h0 h1 (by omega)
end Go.Proofs.YtghagmjpcebmjaaDoor
