/-
  Contracts of reading numerals.
-/
import Derived.Test.YtmkmhljiajgibaaDoorTxt
import Derived.Test.YtmkmhljiajgibaaDoorMrd
namespace Go.Proofs.YtmkmhljiajgibaaDoor
set_option linter.unusedVariables false
set_option linter.unusedSimpArgs false
open Go.RowKit
open Go.Lib (decDigits itoa)

theorem bAt_list (s : ByteArray) (k : Nat) : bAt s k = ((s.data.toList.getD k 0).toNat : Int) := rfl
theorem sz_list (s : ByteArray) : s.data.toList.length = s.size := rfl
def dgI (c : Int) : Bool := decide (48 ≤ c ∧ c ≤ 57)
theorem dgI_t {c : Int} (h : 48 ≤ c ∧ c ≤ 57) : dgI c = true := decide_eq_true h
theorem dgI_f {c : Int} (h : ¬ (48 ≤ c ∧ c ≤ 57)) : dgI c = false := decide_eq_false h
theorem tl_inj {a b : ByteArray} (h : a.toList = b.toList) : a = b := by
  rw [ByteArray.toList_eq, ByteArray.toList_eq] at h
  rw [tx_of a, tx_of b, h]
theorem ret_ib {a c : Int} {b d : Bool} (h : a = c) (g : b = d) : Ending.returned (.tuple #[.int .i64 a, .bool b]) = .returned (.tuple #[.int .i64 c, .bool d]) := by rw [h, g]
theorem shTrim (s : ByteArray) (w : World) :
    Calls Tryd.prog 43 #[.string s, .string ⟨#[45]⟩] w fun e w' => e = .returned (.string (tx (behind s.data.toList))) ∧ w = w' :=
  (Tryd.strings_TrimPrefix s ⟨#[45]⟩ w).mono fun e w' ⟨he, hw⟩ => ⟨by rw [he, ← trim_behind]; rfl, hw.symm⟩
/-- What the library's parse ends in, where it does not take a text. -/
def ParseFell (w : World) (e : Ending) (w' : World) : Prop := ∃ (v : Int) (t : TypeId) (N : Nat), e = .returned (.tuple #[.int .i64 v, .iface t (.pointer (some ⟨N, 0, none⟩))]) ∧ Below w.heap.size w w'
theorem shParseOk (s : ByteArray) (v : Int) (w : World) (hs : s.size ≤ 1048576) (h : Lib.parseIntB 64 s.data.toList = .ok v) :
    Calls Tryd.prog 44 #[.string s, .int .i64 10, .int .i64 64] w fun e w' => e = .returned (.tuple #[.int .i64 v, .nilIface]) ∧ Below w.heap.size w w' :=
  (Tryd.strconv_ParseInt_10_at64_ok s (by omega) v h w).mono fun e w' ⟨he, hw⟩ => ⟨he, by
    rcases hw with rfl | ⟨t, rfl⟩
    · exact Below.refl _ _
    · exact Lib.bytesWorld_below _ _ _⟩
theorem shParseNo (s : ByteArray) (w : World) (hs : s.size ≤ 1048576) (h : ∀ v, Lib.parseIntB 64 s.data.toList ≠ .ok v) (hE : ErrIn w) :
    Calls Tryd.prog 44 #[.string s, .int .i64 10, .int .i64 64] w (ParseFell w) := by
  obtain ⟨⟨t1, p1, h1⟩, t2, p2, h2⟩ := hE
  rcases c : Lib.parseIntB 64 s.data.toList with v | _ | _
  · exact absurd c (h v)
  · exact (Tryd.strconv_ParseInt_10_at64_syntax_var s (by omega) c t1 p1 w h1).mono fun e w' ⟨N, he, _, _, hb⟩ => ⟨_, _, N, he, hb⟩
  · exact (Tryd.strconv_ParseInt_10_at64_range_var s (by omega) c t2 p2 w h2).mono fun e w' ⟨N, he, _, _, hb⟩ => ⟨_, _, N, he, hb⟩
set_option maxHeartbeats 1000000 in
theorem iReadDec (s : ByteArray) (w : World) (hs : s.size ≤ 1048576) (hT : TabIn w) (hE : ErrIn w) :
    Calls Tryd.prog 24 #[.string s] w fun e w' => e = .returned (.tuple #[.int .i64 (rdV s.data.toList), .bool (rdB s.data.toList)]) ∧ Below w.heap.size w w' := by
  have HT := Lib.hid hT
  have HE := Lib.hid hE
  clear hT hE
  obtain ⟨D, hD⟩ : ∃ D, D = tx (behind s.data.toList) := ⟨_, rfl⟩
  have HDl : Hid ((behind s.data.toList).length = D.size) := by show _ = _; rw [hD, tx_size]
  have HD := Lib.hid hD
  clear hD
  by_cases h1 : D.size < 1 ∨ 18 < D.size
  · have HB := Lib.hid (rd_no (num_no_len (l := s.data.toList) (by rw [HDl.out]; exact h1)))
    rcases h1 with h1 | h1
    all_goals
      go_enter Tryd.func24, Tryd.ntmps24
      go_wp2_with fail
      (with_reducible refine (shTrim _ _).mono ?_)
      rintro e w' ⟨rfl, rfl⟩
      rw [← HD.out]
      go_wp2
      go_ret2
      exact ⟨ret_ib HB.out.2.symm HB.out.1.symm, by (repeat (first | exact Below.refl _ _ | assumption | (refine Below.drewN ?_ _) | (refine Below.drew ?_) | (refine Below.alloc ?_ (by first | (simp; done) | (simp; omega) | omega) _) | (refine Below.setCell ?_ (by first | (simp; done) | (simp; omega) | omega) _) | (refine Below.trans ?_ (Below.mono (by assumption) (by first | (simp; done) | (simp; omega) | omega)))))⟩
  have b1 : 1 ≤ D.size := by omega
  have b2 : D.size ≤ 18 := by omega
  clear h1
  by_cases hp : ∃ v, Lib.parseIntB 64 s.data.toList = .ok v
  · obtain ⟨v, hv⟩ := hp
    have hvb := Lib.parseIntB_bounds hv
    have HV := Lib.hid hv
    clear hv
    have v1 : -9223372036854775808 ≤ v := by have := hvb.1; simpa using this
    have v2 : v ≤ 9223372036854775807 := by have := hvb.2; simp at this; omega
    clear hvb
    obtain ⟨V, hVs⟩ : ∃ V, V = tx (itoa v) := ⟨_, rfl⟩
    have HVs := Lib.hid hVs
    clear hVs
    by_cases he : V = s
    · have HY : Hid (IsNum s.data.toList v) := num_yes (by rw [← he, HVs.out, tx_list]) (by rw [HDl.out]; exact b2)
      have HZ := Lib.hid (rd_yes HY.out)
      have HVs2 : Hid (s = tx (itoa v)) := by rw [← he]; exact HVs
      clear HVs he
      go_enter Tryd.func24, Tryd.ntmps24
      go_wp2_with fail
      (with_reducible refine (shTrim _ _).mono ?_)
      rintro e w' ⟨rfl, rfl⟩
      rw [← HD.out]
      go_wp2_with fail
      (with_reducible refine (shParseOk _ v _ hs HV.out).mono ?_)
      rintro e w1 ⟨rfl, hb1⟩
      go_wp2_with fail
      (with_reducible refine (iDecimal _ _ (by omega) (by omega) (HT.out.below hb1)).mono ?_)
      rintro e w2 ⟨rfl, hb2⟩
      rw [← HVs2.out]
      have hs1 := hb1.size
      go_wp2
      go_ret2
      exact ⟨ret_ib HZ.out.2.symm HZ.out.1.symm, by (repeat (first | exact Below.refl _ _ | assumption | (refine Below.drewN ?_ _) | (refine Below.drew ?_) | (refine Below.alloc ?_ (by first | (simp; done) | (simp; omega) | omega) _) | (refine Below.setCell ?_ (by first | (simp; done) | (simp; omega) | omega) _) | (refine Below.trans ?_ (Below.mono (by assumption) (by first | (simp; done) | (simp; omega) | omega)))))⟩
    · have HB := Lib.hid (rd_no (num_of_parse HV.out (fun e => he (by rw [HVs.out, e]; exact (tx_of s).symm))))
      have hne : (V.toList == s.toList) = false := beq_false_of_ne (fun e => he (tl_inj e))
      go_enter Tryd.func24, Tryd.ntmps24
      go_wp2_with fail
      (with_reducible refine (shTrim _ _).mono ?_)
      rintro e w' ⟨rfl, rfl⟩
      rw [← HD.out]
      go_wp2_with fail
      (with_reducible refine (shParseOk _ v _ hs HV.out).mono ?_)
      rintro e w1 ⟨rfl, hb1⟩
      go_wp2_with fail
      (with_reducible refine (iDecimal _ _ (by omega) (by omega) (HT.out.below hb1)).mono ?_)
      rintro e w2 ⟨rfl, hb2⟩
      rw [← HVs.out]
      have hs1 := hb1.size
      go_wp2
      go_ret2
      exact ⟨ret_ib HB.out.2.symm HB.out.1.symm, by (repeat (first | exact Below.refl _ _ | assumption | (refine Below.drewN ?_ _) | (refine Below.drew ?_) | (refine Below.alloc ?_ (by first | (simp; done) | (simp; omega) | omega) _) | (refine Below.setCell ?_ (by first | (simp; done) | (simp; omega) | omega) _) | (refine Below.trans ?_ (Below.mono (by assumption) (by first | (simp; done) | (simp; omega) | omega)))))⟩
  · have hp' : Hid (∀ v, Lib.parseIntB 64 s.data.toList ≠ .ok v) := fun v h => hp ⟨v, h⟩
    have HB := Lib.hid (rd_no (num_no_parse hp'.out))
    clear hp
    go_enter Tryd.func24, Tryd.ntmps24
    go_wp2_with fail
    (with_reducible refine (shTrim _ _).mono ?_)
    rintro e w' ⟨rfl, rfl⟩
    rw [← HD.out]
    go_wp2_with fail
    (with_reducible refine (shParseNo _ _ hs hp'.out HE.out).mono ?_)
    rintro e w1 ⟨v, t, N, rfl, hb1⟩
    go_wp2
    go_ret2
    exact ⟨ret_ib HB.out.2.symm HB.out.1.symm, by (repeat (first | exact Below.refl _ _ | assumption | (refine Below.drewN ?_ _) | (refine Below.drew ?_) | (refine Below.alloc ?_ (by first | (simp; done) | (simp; omega) | omega) _) | (refine Below.setCell ?_ (by first | (simp; done) | (simp; omega) | omega) _) | (refine Below.trans ?_ (Below.mono (by assumption) (by first | (simp; done) | (simp; omega) | omega)))))⟩
end Go.Proofs.YtmkmhljiajgibaaDoor
