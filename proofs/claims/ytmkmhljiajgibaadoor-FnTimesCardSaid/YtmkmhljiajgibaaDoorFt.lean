/-
  The law on times.
-/
import Derived.Test.YtmkmhljiajgibaaDoorRm
import Derived.Test.YtmkmhljiajgibaaDoorMd
namespace Go.Proofs.YtmkmhljiajgibaaDoor
set_option linter.unusedVariables false
set_option linter.unusedSimpArgs false
open Go.RowKit
open Go.Lib (decDigits itoa)

theorem day_eq {D y m d : Int} (h : IsDate D y m d) (hD : 0 ≤ D ∧ D ≤ 99999) : dayA y m d = D ∧ dayC y m d = 0 := by
  obtain ⟨h1, h2⟩ := fin_mk h hD
  have := day_fin.1 h1
  exact ⟨by rw [this.1, h2], this.2⟩
theorem din_eq {D y m d : Int} (h : IsDate D y m d) (hD : D ≤ 99999) : dinA y m = mlen y m ∧ dinC y m = 0 := by
  have hy := h.year hD
  obtain ⟨a, b, c, -⟩ := h
  have e : dinB y m = true := by unfold dinB; rw [inB_mk ⟨a, hy⟩, inB_mk ⟨b, c⟩]; rfl
  unfold dinA dinC
  rw [e]
  exact ⟨rfl, rfl⟩
theorem wd_in {d : Int} (h : 0 ≤ d ∧ d ≤ 99999) : wdA d = (d + 5) % 7 ∧ wdC d = 0 := by unfold wdA wdC; rw [inB_mk h]; exact ⟨rfl, rfl⟩
theorem wd_out {d : Int} (h : ¬ (0 ≤ d ∧ d ≤ 99999)) : wdA d = 0 ∧ wdC d = 2 := by unfold wdA wdC; rw [inB_no h]; exact ⟨rfl, rfl⟩
theorem maf_in {d m s : Int} (h : okM d m = true) (hs : -8640000000000 ≤ s ∧ s ≤ 8640000000000) (ht : 0 ≤ allOf d m + s ∧ allOf d m + s ≤ 8639999999999) : mafD d m s = (allOf d m + s) / 86400000 ∧ mafM d m s = (allOf d m + s) % 86400000 ∧ mafC d m s = 0 := by
  have e : mafC d m s = 0 := by unfold mafC; rw [h, inB_mk hs, inB_mk ht]; rfl
  unfold mafD mafM
  rw [e]
  exact ⟨rfl, rfl, rfl⟩
theorem maf_out {d m s : Int} (h : okM d m = true) (hs : -8640000000000 ≤ s ∧ s ≤ 8640000000000) (ht : ¬ (0 ≤ allOf d m + s ∧ allOf d m + s ≤ 8639999999999)) : mafD d m s = 0 ∧ mafM d m s = 0 ∧ mafC d m s = 6 := by
  have e : mafC d m s = 6 := by unfold mafC; rw [h, inB_mk hs, inB_no ht]; rfl
  unfold mafD mafM
  rw [e]
  exact ⟨rfl, rfl, rfl⟩
theorem all_div {d m : Int} (h : okM d m = true) : allOf d m / 86400000 = d ∧ allOf d m % 86400000 = m := by
  obtain ⟨⟨a, b⟩, c, e⟩ := okM_t h
  unfold allOf
  constructor <;> omega
theorem all_cut {t : Int} (h0 : 0 ≤ t) (h1 : t < 8640000000000) : okM (t / 86400000) (t % 86400000) = true ∧ allOf (t / 86400000) (t % 86400000) = t := by
  unfold allOf
  exact ⟨okM_mk (by omega), by omega⟩
theorem mom_text {d m : Int} (h : okM d m = true) : IsMom (tx (moT d m)).data.toList d m := ⟨h, by rw [tx_list]⟩
theorem moT_len {d m : Int} (h : okM d m = true) : (tx (moT d m)).size ≤ 1048576 := by
  have := (mom_inv (mom_text h)).1.1
  rw [sz_list] at this
  omega
theorem iDayE (y m d D : Int) (w : World) (h : dayA y m d = D ∧ dayC y m d = 0) :
    Calls Tryd.prog 8 #[.int .i64 y, .int .i64 m, .int .i64 d] w fun e w' => e = .returned (.tuple #[.int .i64 D, .int .i64 0]) ∧ w = w' := by
  obtain ⟨rfl, h2⟩ := h
  have := iDayOf y m d w
  rw [h2] at this
  exact this
theorem iDinE (y m L : Int) (w : World) (h : dinA y m = L ∧ dinC y m = 0) :
    Calls Tryd.prog 9 #[.int .i64 y, .int .i64 m] w fun e w' => e = .returned (.tuple #[.int .i64 L, .int .i64 0]) ∧ w = w' := by
  obtain ⟨rfl, h2⟩ := h
  have := iDaysIn y m w
  rw [h2] at this
  exact this
theorem iWdE (d A C : Int) (w : World) (h : wdA d = A ∧ wdC d = C) :
    Calls Tryd.prog 10 #[.int .i64 d] w fun e w' => e = .returned (.tuple #[.int .i64 A, .int .i64 C]) ∧ w = w' := by
  obtain ⟨rfl, rfl⟩ := h
  exact iWeekDay d w
theorem iMafE (d m s D M C : Int) (w : World) (h1 : -9223372036854775808 ≤ s) (h2 : s ≤ 9223372036854775807) (h : mafD d m s = D ∧ mafM d m s = M ∧ mafC d m s = C) :
    Calls Tryd.prog 15 #[.agg #[.int .i64 d, .int .i64 m], .int .i64 s] w fun e w' => e = .returned (.tuple #[.agg #[.int .i64 D, .int .i64 M], .int .i64 C]) ∧ Below w.heap.size w w' := by
  obtain ⟨rfl, rfl, rfl⟩ := h
  exact iMomentAfter d m s w h1 h2
theorem iMibE (d m e n A : Int) (w : World) (h : mibA d m e n = A ∧ mibC d m e n = 0) :
    Calls Tryd.prog 16 #[.agg #[.int .i64 d, .int .i64 m], .agg #[.int .i64 e, .int .i64 n]] w fun e w' => e = .returned (.tuple #[.int .i64 A, .int .i64 0]) ∧ Below w.heap.size w w' := by
  obtain ⟨rfl, h2⟩ := h
  have := iMilliBetween d m e n w
  rw [h2] at this
  exact this
theorem iMotE (d m : Int) (T : ByteArray) (w : World) (hT : TabIn w) (h : tx (moT d m) = T) :
    Calls Tryd.prog 12 #[.agg #[.int .i64 d, .int .i64 m]] w fun e w' => e = .returned (.string T) ∧ Below w.heap.size w w' := by
  subst h
  exact iMomentText d m w hT
theorem iRmE (T : ByteArray) (d m : Int) (w : World) (hs : T.size ≤ 1048576) (hT : TabIn w) (hE : ErrIn w) (h : IsMom T.data.toList d m) :
    Calls Tryd.prog 11 #[.string T] w fun e w' => e = .returned (.tuple #[.agg #[.int .i64 d, .int .i64 m], .bool true]) ∧ Below w.heap.size w w' := by
  have := iReadMom T w hs hT hE
  rw [(rm_yes h).1, (rm_yes h).2] at this
  exact this
set_option maxRecDepth 100000 in
set_option maxHeartbeats 8000000 in
theorem timesTrue (a0 : Option Addr) (len0 cap0 : Nat) (a1 : Option Addr) (len1 cap1 : Nat) (w : World) (h : (tooLong len0 || tooLong len1) = true) :
    Calls Tryd.prog 3 #[.slice a0 len0 cap0, .slice a1 len1 cap1] w fun e w' => e = .returned (.bool true) ∧ Below w.heap.size w w' := by
  go_enter Tryd.func3, Tryd.ntmps3
  go_wp2_with (go_at_call 5; (with_reducible refine (lR8Long _ _ _ _ _ _ _).mono ?_); rintro e w' ⟨rfl, rfl⟩)
  go_ret
  exact ⟨rfl, by (repeat (first | exact Below.refl _ _ | assumption | (refine Below.drewN ?_ _) | (refine Below.drew ?_) | (refine Below.alloc ?_ (by first | (simp; done) | (simp; omega) | omega) _) | (refine Below.setCell ?_ (by first | (simp; done) | (simp; omega) | omega) _) | (refine Below.trans ?_ (Below.mono (by assumption) (by first | (simp; done) | (simp; omega) | omega)))))⟩
set_option maxRecDepth 100000 in
set_option maxHeartbeats 16000000 in
theorem walk_FnTimes (a0 : Option Addr) (len0 cap0 : Nat) (z0 : List Int) (a1 : Option Addr) (len1 cap1 : Nat) (z1 : List Int) (w : World) (w0 : IsRow .u8 w a0 len0 cap0 z0) (w1 : IsRow .u8 w a1 len1 cap1 z1) (hT : TabIn w) (hE : ErrIn w) :
    Calls Tryd.prog 3 #[.slice a0 len0 cap0, .slice a1 len1 cap1] w fun e w' => e = .returned (.bool true) ∧ Below w.heap.size w w' := by
  by_cases hl : (tooLong len0 || tooLong len1) = true
  · exact timesTrue a0 len0 cap0 a1 len1 cap1 w hl
  replace hl : (tooLong len0 || tooLong len1) = false := by simpa using hl
  have HN : Hid (len0 ≤ 1048576 ∧ len1 ≤ 1048576) := by
    show _ ∧ _
    simp only [Bool.or_eq_false_iff] at hl
    exact ⟨by have := of_decide_eq_false hl.1; omega, by have := of_decide_eq_false hl.2; omega⟩
  have R0 := Lib.hid w0.rowB
  have R1 := Lib.hid w1.rowB
  clear w0 w1
  have HT := Lib.hid hT
  have HE := Lib.hid hE
  clear hT hE
  go_enter Tryd.func3, Tryd.ntmps3
  go_wp2_with fail
  (with_reducible refine (lR8Long _ _ _ _ _ _ _).mono ?_)
  rintro e w' ⟨rfl, rfl⟩
  go_wp2_with fail
  (with_reducible refine (sR8Moment _ _ _ _ _ R0.out HN.out.1).mono ?_)
  rintro e W1 ⟨d, x, rfl, hok, hb1⟩
  have hs1 := hb1.size
  obtain ⟨hc1, hf1⟩ := bcell hb1
  have hz01 : w.heap.size < W1.heap.size + 1 := by omega
  have HO := Lib.hid hok
  obtain ⟨⟨b1, b2⟩, b3, b4⟩ := okM_t hok
  obtain ⟨y, mo, da, hdt, hd1, hd2, hd3, hd4⟩ := date_of (inB_mk (show 0 ≤ d ∧ d ≤ 99999 by omega))
  have HDE := Lib.hid (And.intro hd1 (And.intro hd2 (And.intro hd3 hd4)))
  have HDA := Lib.hid (day_eq hdt ⟨b1, b2⟩)
  have HDI := Lib.hid (din_eq hdt b2)
  have dl : 1 ≤ da := hdt.2.2.2.1
  have dh : da ≤ mlen y mo := hdt.2.2.2.2.1
  obtain ⟨L, hL⟩ : ∃ L, mlen y mo = L := ⟨_, rfl⟩
  rw [hL] at HDI dh
  have HWD := Lib.hid (wd_in ⟨b1, b2⟩)
  obtain ⟨v, hv⟩ : ∃ v, (d + 5) % 7 = v := ⟨_, rfl⟩
  rw [hv] at HWD
  have v1 : 0 ≤ v := by omega
  have v2 : v ≤ 6 := by omega
  obtain ⟨T, hTx⟩ : ∃ T, tx (moT d x) = T := ⟨_, rfl⟩
  have HTx := Lib.hid hTx
  have HTs : Hid (T.size ≤ 1048576) := by show _ ≤ _; rw [← hTx]; exact moT_len hok
  have HTm : Hid (IsMom T.data.toList d x) := by show IsMom _ _ _; rw [← hTx]; exact mom_text hok
  clear hTx hd1 hd2 hd3 hd4 hdt hL
  have HV := Lib.hid hv
  clear hv hok
  go_wp2_with fail
  (with_reducible refine (iDateE _ _ _ _ _ HDE.out).mono ?_)
  rintro e w' ⟨rfl, rfl⟩
  go_wp2_with fail
  (with_reducible refine (iDayE _ _ _ _ _ HDA.out).mono ?_)
  rintro e w' ⟨rfl, rfl⟩
  go_wp2_with fail
  (with_reducible refine (iDinE _ _ _ _ HDI.out).mono ?_)
  rintro e w' ⟨rfl, rfl⟩
  go_wp2_with fail
  (with_reducible refine (iWdE _ _ _ _ HWD.out).mono ?_)
  rintro e w' ⟨rfl, rfl⟩
  go_wp2_with fail
  (with_reducible refine (iMotE _ _ _ _ (HT.out.below (by (repeat (first | exact Below.refl _ _ | assumption | (refine Below.drewN ?_ _) | (refine Below.drew ?_) | (refine Below.alloc ?_ (by first | (simp; done) | (simp; omega) | omega) _) | (refine Below.setCell ?_ (by first | (simp; done) | (simp; omega) | omega) _) | (refine Below.trans ?_ (Below.mono (by assumption) (by first | (simp; done) | (simp; omega) | omega))))))) HTx.out).mono ?_)
  rintro e W2 ⟨rfl, hb2⟩
  have hs2 := hb2.size
  (try simp at hs2)
  obtain ⟨hc2, hf2⟩ := bcell hb2
  (try have hz0_2 : w.heap.size < W2.heap.size := by omega)
  (try have hy0_2 : w.heap.size + 1 < W2.heap.size := by omega)
  (try have hz1_2 : W1.heap.size < W2.heap.size := by omega)
  (try have hy1_2 : W1.heap.size + 1 < W2.heap.size := by omega)
  go_wp2_with fail
  (with_reducible refine (iRmE _ _ _ _ HTs.out (HT.out.below (by (repeat (first | exact Below.refl _ _ | assumption | (refine Below.drewN ?_ _) | (refine Below.drew ?_) | (refine Below.alloc ?_ (by first | (simp; done) | (simp; omega) | omega) _) | (refine Below.setCell ?_ (by first | (simp; done) | (simp; omega) | omega) _) | (refine Below.trans ?_ (Below.mono (by assumption) (by first | (simp; done) | (simp; omega) | omega))))))) (HE.out.below (by (repeat (first | exact Below.refl _ _ | assumption | (refine Below.drewN ?_ _) | (refine Below.drew ?_) | (refine Below.alloc ?_ (by first | (simp; done) | (simp; omega) | omega) _) | (refine Below.setCell ?_ (by first | (simp; done) | (simp; omega) | omega) _) | (refine Below.trans ?_ (Below.mono (by assumption) (by first | (simp; done) | (simp; omega) | omega))))))) HTm.out).mono ?_)
  rintro e W3 ⟨rfl, hb3⟩
  have hs3 := hb3.size
  (try simp at hs3)
  obtain ⟨hc3, hf3⟩ := bcell hb3
  (try have hz0_3 : w.heap.size < W3.heap.size := by omega)
  (try have hy0_3 : w.heap.size + 1 < W3.heap.size := by omega)
  (try have hz1_3 : W1.heap.size < W3.heap.size := by omega)
  (try have hy1_3 : W1.heap.size + 1 < W3.heap.size := by omega)
  (try have hz2_3 : W2.heap.size < W3.heap.size := by omega)
  (try have hy2_3 : W2.heap.size + 1 < W3.heap.size := by omega)
  go_wp2_with fail
  (with_reducible refine (lR8Wide _ _ _ _ w.heap.size _ _ _ (RowB.low R1.out (by (repeat (first | exact Below.refl _ _ | assumption | (refine Below.drewN ?_ _) | (refine Below.drew ?_) | (refine Below.alloc ?_ (by first | (simp; done) | (simp; omega) | omega) _) | (refine Below.setCell ?_ (by first | (simp; done) | (simp; omega) | omega) _) | (refine Below.trans ?_ (Below.mono (by assumption) (by first | (simp; done) | (simp; omega) | omega))))))) (by omega) (by omega) (by omega) (by omega) HN.out.2).mono ?_)
  rintro e w' ⟨p, rfl, ⟨p1, p2⟩, rfl⟩
  go_wp2_with fail
  (with_reducible refine (lR8At _ _ _ _ w.heap.size _ _ _ (RowB.low R1.out (by (repeat (first | exact Below.refl _ _ | assumption | (refine Below.drewN ?_ _) | (refine Below.drew ?_) | (refine Below.alloc ?_ (by first | (simp; done) | (simp; omega) | omega) _) | (refine Below.setCell ?_ (by first | (simp; done) | (simp; omega) | omega) _) | (refine Below.trans ?_ (Below.mono (by assumption) (by first | (simp; done) | (simp; omega) | omega))))))) (by omega) (by omega) (by omega) (by omega) HN.out.2).mono ?_)
  rintro e w' ⟨q, rfl, ⟨q1, q2⟩, rfl⟩
  obtain ⟨B, hB⟩ : ∃ B, 1000 * p + q = B := ⟨_, rfl⟩
  have B1 : 0 ≤ B := by omega
  have B2 : B ≤ 65535255 := by omega
  go_wp2_with fail
  clear hB p1 p2 q1 q2
  by_cases hin : allOf d x + B ≤ 8639999999999
  · have ha0 : 0 ≤ allOf d x := by unfold allOf; omega
    have HMA := Lib.hid (maf_in HO.out (show -8640000000000 ≤ B ∧ B ≤ 8640000000000 by omega) ⟨by omega, hin⟩)
    obtain ⟨o1, o2⟩ := all_cut (t := allOf d x + B) (by omega) (by omega)
    obtain ⟨D, hD⟩ : ∃ D, (allOf d x + B) / 86400000 = D := ⟨_, rfl⟩
    obtain ⟨M, hM⟩ : ∃ M, (allOf d x + B) % 86400000 = M := ⟨_, rfl⟩
    rw [hD, hM] at HMA o1 o2
    have HBK : Hid (mafD D M (-B) = d ∧ mafM D M (-B) = x ∧ mafC D M (-B) = 0) := by
      have h := maf_in o1 (s := -B) (by omega) (by rw [o2]; omega)
      rw [o2, show allOf d x + B + -B = allOf d x by omega] at h
      obtain ⟨g1, g2⟩ := all_div HO.out
      rw [g1, g2] at h
      exact h
    have HMB : Hid (mibA d x D M = B ∧ mibC d x D M = 0) := by
      show _ ∧ _
      unfold mibA mibC
      rw [HO.out, o1, o2]
      exact ⟨by show allOf d x + B - allOf d x = B; omega, rfl⟩
    clear hD hM o1 o2 ha0 hin
    go_wp2_with fail
    (with_reducible refine (iMafE _ _ _ _ _ _ _ (by omega) (by omega) HMA.out).mono ?_)
    rintro e W4 ⟨rfl, hb4⟩
    have hs4 := hb4.size
    (try simp at hs4)
    obtain ⟨hc4, hf4⟩ := bcell hb4
    (try have hz0_4 : w.heap.size < W4.heap.size := by omega)
    (try have hy0_4 : w.heap.size + 1 < W4.heap.size := by omega)
    (try have hz1_4 : W1.heap.size < W4.heap.size := by omega)
    (try have hy1_4 : W1.heap.size + 1 < W4.heap.size := by omega)
    (try have hz2_4 : W2.heap.size < W4.heap.size := by omega)
    (try have hy2_4 : W2.heap.size + 1 < W4.heap.size := by omega)
    (try have hz3_4 : W3.heap.size < W4.heap.size := by omega)
    (try have hy3_4 : W3.heap.size + 1 < W4.heap.size := by omega)
    go_wp2_with fail
    (with_reducible refine (iMafE _ _ _ _ _ _ _ (by omega) (by omega) HBK.out).mono ?_)
    rintro e W5 ⟨rfl, hb5⟩
    have hs5 := hb5.size
    (try simp at hs5)
    obtain ⟨hc5, hf5⟩ := bcell hb5
    (try have hz0_5 : w.heap.size < W5.heap.size := by omega)
    (try have hy0_5 : w.heap.size + 1 < W5.heap.size := by omega)
    (try have hz1_5 : W1.heap.size < W5.heap.size := by omega)
    (try have hy1_5 : W1.heap.size + 1 < W5.heap.size := by omega)
    (try have hz2_5 : W2.heap.size < W5.heap.size := by omega)
    (try have hy2_5 : W2.heap.size + 1 < W5.heap.size := by omega)
    (try have hz3_5 : W3.heap.size < W5.heap.size := by omega)
    (try have hy3_5 : W3.heap.size + 1 < W5.heap.size := by omega)
    (try have hz4_5 : W4.heap.size < W5.heap.size := by omega)
    (try have hy4_5 : W4.heap.size + 1 < W5.heap.size := by omega)
    go_wp2_with fail
    (with_reducible refine (iMibE _ _ _ _ _ _ HMB.out).mono ?_)
    rintro e W6 ⟨rfl, hb6⟩
    have hs6 := hb6.size
    (try simp at hs6)
    obtain ⟨hc6, hf6⟩ := bcell hb6
    (try have hz0_6 : w.heap.size < W6.heap.size := by omega)
    (try have hy0_6 : w.heap.size + 1 < W6.heap.size := by omega)
    (try have hz1_6 : W1.heap.size < W6.heap.size := by omega)
    (try have hy1_6 : W1.heap.size + 1 < W6.heap.size := by omega)
    (try have hz2_6 : W2.heap.size < W6.heap.size := by omega)
    (try have hy2_6 : W2.heap.size + 1 < W6.heap.size := by omega)
    (try have hz3_6 : W3.heap.size < W6.heap.size := by omega)
    (try have hy3_6 : W3.heap.size + 1 < W6.heap.size := by omega)
    (try have hz4_6 : W4.heap.size < W6.heap.size := by omega)
    (try have hy4_6 : W4.heap.size + 1 < W6.heap.size := by omega)
    (try have hz5_6 : W5.heap.size < W6.heap.size := by omega)
    (try have hy5_6 : W5.heap.size + 1 < W6.heap.size := by omega)
    by_cases h7 : d + 7 ≤ 99999
    · have HW7 : Hid (wdA (d + 7) = v ∧ wdC (d + 7) = 0) := by
        have h := wd_in (d := d + 7) ⟨by omega, h7⟩
        rw [show (d + 7 + 5) % 7 = v by rw [← HV.out]; omega] at h
        exact h
      go_wp2_with fail
      (with_reducible refine (iWdE _ _ _ _ HW7.out).mono ?_)
      rintro e w' ⟨rfl, rfl⟩
      go_wp2
      go_ret
      exact ⟨rfl, by (repeat (first | exact Below.refl _ _ | assumption | (refine Below.drewN ?_ _) | (refine Below.drew ?_) | (refine Below.alloc ?_ (by first | (simp; done) | (simp; omega) | omega) _) | (refine Below.setCell ?_ (by first | (simp; done) | (simp; omega) | omega) _) | (refine Below.trans ?_ (Below.mono (by assumption) (by first | (simp; done) | (simp; omega) | omega)))))⟩
    · have HW7 := Lib.hid (wd_out (d := d + 7) (by omega))
      go_wp2_with fail
      (with_reducible refine (iWdE _ _ _ _ HW7.out).mono ?_)
      rintro e w' ⟨rfl, rfl⟩
      go_wp2
      go_ret
      exact ⟨rfl, by (repeat (first | exact Below.refl _ _ | assumption | (refine Below.drewN ?_ _) | (refine Below.drew ?_) | (refine Below.alloc ?_ (by first | (simp; done) | (simp; omega) | omega) _) | (refine Below.setCell ?_ (by first | (simp; done) | (simp; omega) | omega) _) | (refine Below.trans ?_ (Below.mono (by assumption) (by first | (simp; done) | (simp; omega) | omega)))))⟩
  · have HMA := Lib.hid (maf_out HO.out (show -8640000000000 ≤ B ∧ B ≤ 8640000000000 by omega) (fun h => hin h.2))
    clear hin
    go_wp2_with fail
    (with_reducible refine (iMafE _ _ _ _ _ _ _ (by omega) (by omega) HMA.out).mono ?_)
    rintro e W4 ⟨rfl, hb4⟩
    have hs4 := hb4.size
    (try simp at hs4)
    obtain ⟨hc4, hf4⟩ := bcell hb4
    (try have hz0_4 : w.heap.size < W4.heap.size := by omega)
    (try have hy0_4 : w.heap.size + 1 < W4.heap.size := by omega)
    (try have hz1_4 : W1.heap.size < W4.heap.size := by omega)
    (try have hy1_4 : W1.heap.size + 1 < W4.heap.size := by omega)
    (try have hz2_4 : W2.heap.size < W4.heap.size := by omega)
    (try have hy2_4 : W2.heap.size + 1 < W4.heap.size := by omega)
    (try have hz3_4 : W3.heap.size < W4.heap.size := by omega)
    (try have hy3_4 : W3.heap.size + 1 < W4.heap.size := by omega)
    go_wp2
    go_ret
    exact ⟨rfl, by (repeat (first | exact Below.refl _ _ | assumption | (refine Below.drewN ?_ _) | (refine Below.drew ?_) | (refine Below.alloc ?_ (by first | (simp; done) | (simp; omega) | omega) _) | (refine Below.setCell ?_ (by first | (simp; done) | (simp; omega) | omega) _) | (refine Below.trans ?_ (Below.mono (by assumption) (by first | (simp; done) | (simp; omega) | omega)))))⟩
end Go.Proofs.YtmkmhljiajgibaaDoor
