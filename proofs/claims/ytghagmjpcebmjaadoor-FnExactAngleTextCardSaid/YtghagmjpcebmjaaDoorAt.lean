/-
  Contracts of angles as texts.
-/
import Derived.Test.YtghagmjpcebmjaaDoorTxt
namespace Go.Proofs.YtghagmjpcebmjaaDoor
set_option linter.unusedVariables false
set_option linter.unusedSimpArgs false
open Go.RowKit
open Go.Lib (decDigits itoa)

/-- An angle as a text: the sign, the degrees, three digits. -/
def atL (a : Int) : List UInt8 := (if a < 0 then [45] else []) ++ itoa (a.natAbs / 1000 : Nat) ++ [46] ++ pd 3 (itoa (a.natAbs % 1000 : Nat))
theorem atL_pos {a : Int} (h : 0 ≤ a) : atL a = itoa (a / 1000) ++ [46] ++ pd 3 (itoa (a % 1000)) := by
  unfold atL
  rw [if_neg (by omega), show ((a.natAbs / 1000 : Nat) : Int) = a / 1000 by omega, show ((a.natAbs % 1000 : Nat) : Int) = a % 1000 by omega]; rfl
theorem atL_neg {a : Int} (h : a < 0) : atL a = [45] ++ itoa (-a / 1000) ++ [46] ++ pd 3 (itoa (-a % 1000)) := by
  unfold atL
  rw [if_pos h, show ((a.natAbs / 1000 : Nat) : Int) = -a / 1000 by omega, show ((a.natAbs % 1000 : Nat) : Int) = -a % 1000 by omega]
def atT (a : Int) : List UInt8 := if inB a (-359999) 359999 then atL a else []
theorem atT_no {a : Int} (h : inB a (-359999) 359999 = false) : atT a = [] := by unfold atT; rw [h]; rfl
theorem atT_yes {a : Int} (h : inB a (-359999) 359999 = true) : atT a = atL a := by unfold atT; rw [h]; rfl
theorem cat3 {S0 S1 : ByteArray} {l0 l1 : List UInt8} (h0 : S0 = tx l0) (h1 : S1 = tx l1) : S0 ++ S1 = tx (l0 ++ l1) := by rw [h0, h1, tx_cat]
theorem pd3_len {n : Int} (h0 : -9223372036854775808 ≤ n) (h1 : n ≤ 9223372036854775807) : (pd 3 (itoa n)).length ≤ 40 := by rw [pd_len]; have := itoa_len h0 h1; omega
set_option maxHeartbeats 1000000 in
theorem iAngleText (a : Int) (w : World) (hT : TabIn w) :
    Calls Tryd.prog 18 #[.int .i64 a] w fun e w' => e = .returned (.string (tx (atT a))) ∧ Below w.heap.size w w' := by
  cases h : inB a (-359999) 359999
  · rw [atT_no h]
    go_enter Tryd.func18, Tryd.ntmps18
    go_wp2_with (go_at_call 60; (with_reducible refine (iWithin _ _ _ _).mono ?_); rintro e w' ⟨rfl, rfl⟩)
    go_ret
    exact ⟨rfl, by (repeat (first | exact Below.refl _ _ | assumption | (refine Below.drewN ?_ _) | (refine Below.drew ?_) | (refine Below.alloc ?_ (by first | (simp; done) | (simp; omega) | omega) _) | (refine Below.setCell ?_ (by first | (simp; done) | (simp; omega) | omega) _) | (refine Below.trans ?_ (Below.mono (by assumption) (by first | (simp; done) | (simp; omega) | omega)))))⟩
  rw [atT_yes h]
  obtain ⟨h0, h1⟩ := inB_t h
  have HT := Lib.hid hT
  clear hT
  by_cases hn : a < 0
  · rw [atL_neg hn]
    have t1 : (-a).tdiv 1000 = -a / 1000 := tdiv_nonneg _ (by omega)
    have t2 : (-a).tmod 1000 = -a % 1000 := tmod_nonneg _ (by omega)
    obtain ⟨p, hp⟩ : ∃ p, -a / 1000 = p := ⟨_, rfl⟩
    obtain ⟨q, hq⟩ : ∃ q, -a % 1000 = q := ⟨_, rfl⟩
    rw [hp] at t1 ⊢
    rw [hq] at t2 ⊢
    have p1 : 0 ≤ p := by omega
    have p2 : p ≤ 359 := by omega
    have q1 : 0 ≤ q := by omega
    have q2 : q ≤ 999 := by omega
    clear hp hq
    obtain ⟨S1, e1⟩ : ∃ S, S = tx (itoa p) := ⟨_, rfl⟩
    obtain ⟨S2, e2⟩ : ∃ S, S = tx (pd 3 (itoa q)) := ⟨_, rfl⟩
    have z1 : S1.size ≤ 40 := sz_of e1 (by have := itoa_len (n := p) (by omega) (by omega); omega)
    have z2 : S2.size ≤ 40 := sz_of e2 (pd3_len (by omega) (by omega))
    have E1 := Lib.hid e1
    have E2 := Lib.hid e2
    clear e1 e2
    go_enter Tryd.func18, Tryd.ntmps18
    go_wp2_with fail
    (with_reducible refine (iWithin _ _ _ _).mono ?_)
    rintro e w' ⟨rfl, rfl⟩
    go_wp2_with fail
    (with_reducible refine (iDecimal _ _ (by omega) (by omega) HT.out).mono ?_)
    rintro e W1 ⟨rfl, hb1⟩
    rw [← E1.out]
    go_wp2_with fail
    (with_reducible refine (iPad3 _ _ (by omega) (by omega) (HT.out.below hb1)).mono ?_)
    rintro e W2 ⟨rfl, hb2⟩
    rw [← E2.out]
    have hs1 := hb1.size
    go_wp2
    go_ret
    exact ⟨ret_s (by rw [E1.out, E2.out]; show ((tx [45] ++ _) ++ tx [46]) ++ _ = _; rw [tx_cat, tx_cat, tx_cat]; rfl), by (repeat (first | exact Below.refl _ _ | assumption | (refine Below.drewN ?_ _) | (refine Below.drew ?_) | (refine Below.alloc ?_ (by first | (simp; done) | (simp; omega) | omega) _) | (refine Below.setCell ?_ (by first | (simp; done) | (simp; omega) | omega) _) | (refine Below.trans ?_ (Below.mono (by assumption) (by first | (simp; done) | (simp; omega) | omega)))))⟩
  · rw [atL_pos (by omega)]
    have t1 : a.tdiv 1000 = a / 1000 := tdiv_nonneg _ (by omega)
    have t2 : a.tmod 1000 = a % 1000 := tmod_nonneg _ (by omega)
    obtain ⟨p, hp⟩ : ∃ p, a / 1000 = p := ⟨_, rfl⟩
    obtain ⟨q, hq⟩ : ∃ q, a % 1000 = q := ⟨_, rfl⟩
    rw [hp] at t1 ⊢
    rw [hq] at t2 ⊢
    have p1 : 0 ≤ p := by omega
    have p2 : p ≤ 359 := by omega
    have q1 : 0 ≤ q := by omega
    have q2 : q ≤ 999 := by omega
    clear hp hq
    obtain ⟨S1, e1⟩ : ∃ S, S = tx (itoa p) := ⟨_, rfl⟩
    obtain ⟨S2, e2⟩ : ∃ S, S = tx (pd 3 (itoa q)) := ⟨_, rfl⟩
    have z1 : S1.size ≤ 40 := sz_of e1 (by have := itoa_len (n := p) (by omega) (by omega); omega)
    have z2 : S2.size ≤ 40 := sz_of e2 (pd3_len (by omega) (by omega))
    have E1 := Lib.hid e1
    have E2 := Lib.hid e2
    clear e1 e2
    go_enter Tryd.func18, Tryd.ntmps18
    go_wp2_with fail
    (with_reducible refine (iWithin _ _ _ _).mono ?_)
    rintro e w' ⟨rfl, rfl⟩
    go_wp2_with fail
    (with_reducible refine (iDecimal _ _ (by omega) (by omega) HT.out).mono ?_)
    rintro e W1 ⟨rfl, hb1⟩
    rw [← E1.out]
    go_wp2_with fail
    (with_reducible refine (iPad3 _ _ (by omega) (by omega) (HT.out.below hb1)).mono ?_)
    rintro e W2 ⟨rfl, hb2⟩
    rw [← E2.out]
    have hs1 := hb1.size
    go_wp2
    go_ret
    exact ⟨ret_s (by rw [E1.out, E2.out]; show ((tx [] ++ _) ++ tx [46]) ++ _ = _; rw [tx_cat, tx_cat, tx_cat]; rfl), by (repeat (first | exact Below.refl _ _ | assumption | (refine Below.drewN ?_ _) | (refine Below.drew ?_) | (refine Below.alloc ?_ (by first | (simp; done) | (simp; omega) | omega) _) | (refine Below.setCell ?_ (by first | (simp; done) | (simp; omega) | omega) _) | (refine Below.trans ?_ (Below.mono (by assumption) (by first | (simp; done) | (simp; omega) | omega)))))⟩
set_option maxHeartbeats 1000000 in
theorem sAngleT (a : Int) (w : World) (h0 : -359999 ≤ a) (h1 : a ≤ 359999) :
    Calls Tryd.prog 59 #[.int .i64 a] w fun e w' => e = .returned (.string (tx (atL a))) ∧ Below w.heap.size w w' := by
  by_cases hn : a < 0
  · rw [atL_neg hn]
    have t1 : (-a).tdiv 1000 = -a / 1000 := tdiv_nonneg _ (by omega)
    have t2 : (-a).tmod 1000 = -a % 1000 := tmod_nonneg _ (by omega)
    obtain ⟨p, hp⟩ : ∃ p, -a / 1000 = p := ⟨_, rfl⟩
    obtain ⟨q, hq⟩ : ∃ q, -a % 1000 = q := ⟨_, rfl⟩
    rw [hp] at t1 ⊢
    rw [hq] at t2 ⊢
    have p1 : 0 ≤ p := by omega
    have p2 : p ≤ 359 := by omega
    have q1 : 0 ≤ q := by omega
    have q2 : q ≤ 999 := by omega
    clear hp hq
    obtain ⟨S1, e1⟩ : ∃ S, S = tx (itoa p) := ⟨_, rfl⟩
    have z1 : S1.size ≤ 40 := sz_of e1 (by have := itoa_len (n := p) (by omega) (by omega); omega)
    have E1 := Lib.hid e1
    clear e1
    go_enter Tryd.func59, Tryd.ntmps59
    go_wp2_with fail
    (with_reducible refine (sDec _ _ (by omega) (by omega)).mono ?_)
    rintro e W1 ⟨rfl, hb1⟩
    have HL := Lib.hid (itoa_len (n := q) (by omega) (by omega))
    have hs1 := hb1.size
    obtain ⟨S, hS⟩ : ∃ S, S = tx (itoa q) := ⟨_, rfl⟩
    rw [← hS]
    have HS := Lib.hid hS
    clear hS
    go_wp2
    go_loop [4] (fun s => ∃ (S' : ByteArray) (l : List UInt8), s = .string S' ∧ S' = tx l ∧ l.length ≤ 30 ∧ Hid (pd 3 l = pd 3 (itoa q))) (fun s => match s with | .string S' => 3 - S'.size | _ => 0)
    case atStart => exact ⟨S, itoa q, rfl, HS.out, by have := HL.out; omega, rfl⟩
    case round =>
      obtain ⟨S', l, rfl, hS', hl, HP⟩ := hrel
      have hsz : S'.size = l.length := by rw [hS', tx_size]
      have HS' := Lib.hid hS'
      clear hS'
      by_cases hlt : l.length < 3
      · go_wp2
        go_round
        case rel => exact ⟨_, 48 :: l, rfl, by rw [HS'.out]; exact tx_cat [48] l, by simp; omega, by show _ = _; rw [pd_step hlt]; exact HP.out⟩
        case measure =>
          have e1 : ((⟨#[48]⟩ : ByteArray) ++ S').size = 1 + S'.size := by rw [ByteArray.size_append']; rfl
          show 3 - ((⟨#[48]⟩ : ByteArray) ++ S').size < 3 - S'.size
          rw [e1]
          omega
      · have E2 : Hid (S' = tx (pd 3 (itoa q))) := by show _ = _; rw [HS'.out, ← HP.out, pd_done (by omega)]
        go_wp2_with fail
        (with_reducible refine (sDec _ _ (by omega) (by omega)).mono ?_)
        rintro e W2 ⟨rfl, hb2⟩
        rw [← E1.out]
        go_wp2
        go_ret
        exact ⟨ret_s (by rw [E1.out, E2.out]; show ((tx [45] ++ _) ++ tx [46]) ++ _ = _; rw [tx_cat, tx_cat, tx_cat]; rfl), by (repeat (first | exact Below.refl _ _ | assumption | (refine Below.drewN ?_ _) | (refine Below.drew ?_) | (refine Below.alloc ?_ (by first | (simp; done) | (simp; omega) | omega) _) | (refine Below.setCell ?_ (by first | (simp; done) | (simp; omega) | omega) _) | (refine Below.trans ?_ (Below.mono (by assumption) (by first | (simp; done) | (simp; omega) | omega)))))⟩
  · rw [atL_pos (by omega)]
    have t1 : a.tdiv 1000 = a / 1000 := tdiv_nonneg _ (by omega)
    have t2 : a.tmod 1000 = a % 1000 := tmod_nonneg _ (by omega)
    obtain ⟨p, hp⟩ : ∃ p, a / 1000 = p := ⟨_, rfl⟩
    obtain ⟨q, hq⟩ : ∃ q, a % 1000 = q := ⟨_, rfl⟩
    rw [hp] at t1 ⊢
    rw [hq] at t2 ⊢
    have p1 : 0 ≤ p := by omega
    have p2 : p ≤ 359 := by omega
    have q1 : 0 ≤ q := by omega
    have q2 : q ≤ 999 := by omega
    clear hp hq
    obtain ⟨S1, e1⟩ : ∃ S, S = tx (itoa p) := ⟨_, rfl⟩
    have z1 : S1.size ≤ 40 := sz_of e1 (by have := itoa_len (n := p) (by omega) (by omega); omega)
    have E1 := Lib.hid e1
    clear e1
    go_enter Tryd.func59, Tryd.ntmps59
    go_wp2_with fail
    (with_reducible refine (sDec _ _ (by omega) (by omega)).mono ?_)
    rintro e W1 ⟨rfl, hb1⟩
    have HL := Lib.hid (itoa_len (n := q) (by omega) (by omega))
    have hs1 := hb1.size
    obtain ⟨S, hS⟩ : ∃ S, S = tx (itoa q) := ⟨_, rfl⟩
    rw [← hS]
    have HS := Lib.hid hS
    clear hS
    go_wp2
    go_loop [4] (fun s => ∃ (S' : ByteArray) (l : List UInt8), s = .string S' ∧ S' = tx l ∧ l.length ≤ 30 ∧ Hid (pd 3 l = pd 3 (itoa q))) (fun s => match s with | .string S' => 3 - S'.size | _ => 0)
    case atStart => exact ⟨S, itoa q, rfl, HS.out, by have := HL.out; omega, rfl⟩
    case round =>
      obtain ⟨S', l, rfl, hS', hl, HP⟩ := hrel
      have hsz : S'.size = l.length := by rw [hS', tx_size]
      have HS' := Lib.hid hS'
      clear hS'
      by_cases hlt : l.length < 3
      · go_wp2
        go_round
        case rel => exact ⟨_, 48 :: l, rfl, by rw [HS'.out]; exact tx_cat [48] l, by simp; omega, by show _ = _; rw [pd_step hlt]; exact HP.out⟩
        case measure =>
          have e1 : ((⟨#[48]⟩ : ByteArray) ++ S').size = 1 + S'.size := by rw [ByteArray.size_append']; rfl
          show 3 - ((⟨#[48]⟩ : ByteArray) ++ S').size < 3 - S'.size
          rw [e1]
          omega
      · have E2 : Hid (S' = tx (pd 3 (itoa q))) := by show _ = _; rw [HS'.out, ← HP.out, pd_done (by omega)]
        go_wp2_with fail
        (with_reducible refine (sDec _ _ (by omega) (by omega)).mono ?_)
        rintro e W2 ⟨rfl, hb2⟩
        rw [← E1.out]
        go_wp2
        go_ret
        exact ⟨ret_s (by rw [E1.out, E2.out]; show ((tx [] ++ _) ++ tx [46]) ++ _ = _; rw [tx_cat, tx_cat, tx_cat]; rfl), by (repeat (first | exact Below.refl _ _ | assumption | (refine Below.drewN ?_ _) | (refine Below.drew ?_) | (refine Below.alloc ?_ (by first | (simp; done) | (simp; omega) | omega) _) | (refine Below.setCell ?_ (by first | (simp; done) | (simp; omega) | omega) _) | (refine Below.trans ?_ (Below.mono (by assumption) (by first | (simp; done) | (simp; omega) | omega)))))⟩
theorem sAngleText (a : Int) (w : World) :
    Calls Tryd.prog 17 #[.int .i64 a] w fun e w' => e = .returned (.string (tx (atT a))) ∧ Below w.heap.size w w' := by
  cases h : inB a (-359999) 359999
  · rw [atT_no h]
    go_enter Tryd.func17, Tryd.ntmps17
    go_wp2_with (go_at_call 58; (with_reducible refine (sIn _ _ _ _).mono ?_); rintro e w' ⟨rfl, rfl⟩)
    go_ret
    exact ⟨rfl, by (repeat (first | exact Below.refl _ _ | assumption | (refine Below.drewN ?_ _) | (refine Below.drew ?_) | (refine Below.alloc ?_ (by first | (simp; done) | (simp; omega) | omega) _) | (refine Below.setCell ?_ (by first | (simp; done) | (simp; omega) | omega) _) | (refine Below.trans ?_ (Below.mono (by assumption) (by first | (simp; done) | (simp; omega) | omega)))))⟩
  · rw [atT_yes h]
    obtain ⟨h0, h1⟩ := inB_t h
    go_enter Tryd.func17, Tryd.ntmps17
    go_wp2_with (first | (go_at_call 58; (with_reducible refine (sIn _ _ _ _).mono ?_); rintro e w' ⟨rfl, rfl⟩) | (go_at_call 59; (with_reducible refine (sAngleT _ _ (by omega) (by omega)).mono ?_); rintro e w' ⟨rfl, hb⟩; have hs := hb.size; (try simp at hs); (try have hz : w.heap.size < w'.heap.size := by omega); (try have hy : w.heap.size < w'.heap.size + 1 := by omega); (try have hyy : w.heap.size < w'.heap.size + 1 + 1 := by omega); (try have hz1 : w.heap.size + 1 < w'.heap.size := by omega); (try have hn : ¬ w'.heap.size = w.heap.size := by omega); (try have hn1 : ¬ w'.heap.size = w.heap.size + 1 := by omega); (try have hz2 : w.heap.size + 1 + 1 < w'.heap.size := by omega); (try have hq := Nat.lt_of_lt_of_le (by assumption) hs); (try have hq := Nat.lt_of_succ_le hs); obtain ⟨hc, hf⟩ := bcell hb; (try simp only [World.size_drew, World.cell?_drew, World.frozen?_drew, World.heap_drewN, World.cell?_drewN, World.frozen?_drewN] at hc hf)))
    go_ret
    exact ⟨rfl, by (repeat (first | exact Below.refl _ _ | assumption | (refine Below.drewN ?_ _) | (refine Below.drew ?_) | (refine Below.alloc ?_ (by first | (simp; done) | (simp; omega) | omega) _) | (refine Below.setCell ?_ (by first | (simp; done) | (simp; omega) | omega) _) | (refine Below.trans ?_ (Below.mono (by assumption) (by first | (simp; done) | (simp; omega) | omega)))))⟩
theorem walk_FnExactAngleText (a0 : Int) (w : World) (w0 : (Lit.int .i64 a0).wf = true) (hT : TabIn w) :
    Calls Tryd.prog 4 #[.int .i64 a0] w fun e w' => e = .returned (.bool true) ∧ Below w.heap.size w w' := by
  clear w0
  have HT := Lib.hid hT
  clear hT
  go_enter Tryd.func4, Tryd.ntmps4
  go_wp2_with fail
  (with_reducible refine (sAngleText _ _).mono ?_)
  rintro e W1 ⟨rfl, hb1⟩
  have hs1 := hb1.size
  (try simp at hs1)
  obtain ⟨hc1, hf1⟩ := bcell hb1
  (try have hz0_1 : w.heap.size < W1.heap.size := by omega)
  (try have hy0_1 : w.heap.size + 1 < W1.heap.size := by omega)
  go_wp2_with fail
  (with_reducible refine (iAngleText _ _ (HT.out.below hb1)).mono ?_)
  rintro e W2 ⟨rfl, hb2⟩
  have hs2 := hb2.size
  (try simp at hs2)
  obtain ⟨hc2, hf2⟩ := bcell hb2
  (try have hz0_2 : w.heap.size < W2.heap.size := by omega)
  (try have hy0_2 : w.heap.size + 1 < W2.heap.size := by omega)
  (try have hz1_2 : W1.heap.size < W2.heap.size := by omega)
  (try have hy1_2 : W1.heap.size + 1 < W2.heap.size := by omega)
  go_wp2
  go_ret
  exact ⟨rfl, by (repeat (first | exact Below.refl _ _ | assumption | (refine Below.drewN ?_ _) | (refine Below.drew ?_) | (refine Below.alloc ?_ (by first | (simp; done) | (simp; omega) | omega) _) | (refine Below.setCell ?_ (by first | (simp; done) | (simp; omega) | omega) _) | (refine Below.trans ?_ (Below.mono (by assumption) (by first | (simp; done) | (simp; omega) | omega)))))⟩
end Go.Proofs.YtghagmjpcebmjaaDoor
