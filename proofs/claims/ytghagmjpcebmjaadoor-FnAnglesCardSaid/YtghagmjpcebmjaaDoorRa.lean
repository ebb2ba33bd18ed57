/-
  Contracts of reading angles.
-/
import Derived.Test.YtghagmjpcebmjaaDoorRd
import Derived.Test.YtghagmjpcebmjaaDoorMra
import Derived.Deep.RegionHeld3
namespace Go.Proofs.YtghagmjpcebmjaaDoor
set_option linter.unusedVariables false
set_option linter.unusedSimpArgs false
open Go.RowKit
open Go.Lib (decDigits itoa)

theorem indexByte_lt (l : List UInt8) (c : UInt8) : Lib.indexByte l c < (l.length : Int) := by
  induction l with
  | nil => simp [Lib.indexByte]
  | cons b l ih =>
    rw [Lib.indexByte, List.length_cons]
    split
    · omega
    · split <;> omega
theorem ext_take (s : ByteArray) (d : Nat) : (s.extract 0 d).data.toList = s.data.toList.take d := Lib.extract_from_zero s d
theorem ext_drop (s : ByteArray) (d : Nat) : (s.extract d s.size).data.toList = s.data.toList.drop d := Lib.extract_to_end s d
theorem cat_list (a b : ByteArray) : (a ++ b).data.toList = a.data.toList ++ b.data.toList := by rw [tx_of a, tx_of b, tx_cat]; simp [tx]
theorem sz_take (s : ByteArray) {d : Nat} (h : d ≤ s.size) : (s.extract 0 d).size = d := by rw [← sz_list, ext_take, List.length_take, sz_list]; omega
theorem sz_drop (s : ByteArray) (d : Nat) : (s.extract d s.size).size = s.size - d := by rw [← sz_list, ext_drop, List.length_drop, sz_list]
theorem shIndex (s : ByteArray) (w : World) :
    Calls Tryd.prog 79 #[.string s, .int .u8 46] w fun e w' => e = .returned (.int .i64 (Lib.indexByte s.data.toList 46)) ∧ w = w' :=
  (Tryd.strings_IndexByte s 46 w).mono fun e w' ⟨he, hw⟩ => ⟨by rw [he]; rfl, hw.symm⟩
set_option maxRecDepth 100000 in
set_option maxHeartbeats 4000000 in
theorem iReadAngle (s : ByteArray) (w : World) (hs : s.size ≤ 1048576) (hT : TabIn w) (hE : ErrIn w) :
    Calls Tryd.prog 37 #[.string s] w fun e w' => e = .returned (.tuple #[.int .i64 (raV s.data.toList), .bool (raB s.data.toList)]) ∧ Below w.heap.size w w' := by
  have HT := Lib.hid hT
  have HE := Lib.hid hE
  clear hT hE
  obtain ⟨d, hd⟩ : ∃ d, Lib.indexByte s.data.toList 46 = d := ⟨_, rfl⟩
  have HD := Lib.hid hd
  clear hd
  by_cases h1 : d < 0 ∨ s.size ≠ d + 4
  · have HB := Lib.hid (ra_no (l := s.data.toList) (by
      rintro ⟨n, hn⟩
      have e := hn.dot
      have hl := hn.len
      rw [HD.out, sz_list] at e
      rw [sz_list] at hl
      omega))
    by_cases h2 : d < 0
    · clear h1
      go_enter Tryd.func37, Tryd.ntmps37
      go_wp2_with fail
      (with_reducible refine (shIndex _ _).mono ?_)
      rintro e w' ⟨rfl, rfl⟩
      rw [HD.out]
      go_wp2
      go_ret2
      exact ⟨ret_ib HB.out.2.symm HB.out.1.symm, by (repeat (first | exact Below.refl _ _ | assumption | (refine Below.drewN ?_ _) | (refine Below.drew ?_) | (refine Below.alloc ?_ (by first | (simp; done) | (simp; omega) | omega) _) | (refine Below.setCell ?_ (by first | (simp; done) | (simp; omega) | omega) _) | (refine Below.trans ?_ (Below.mono (by assumption) (by first | (simp; done) | (simp; omega) | omega)))))⟩
    · have h3 : ((s.size : Int) == d + 4) = false := beq_false_of_ne (by omega)
      have h5 : ((s.size : Int) != d + 4) = true := by simp [bne, h3]
      have h4 : d ≤ 1048576 := by have := indexByte_lt s.data.toList 46; rw [HD.out, sz_list] at this; omega
      clear h1
      go_enter Tryd.func37, Tryd.ntmps37
      go_wp2_with fail
      (with_reducible refine (shIndex _ _).mono ?_)
      rintro e w' ⟨rfl, rfl⟩
      rw [HD.out]
      go_wp2
      go_ret2
      exact ⟨ret_ib HB.out.2.symm HB.out.1.symm, by (repeat (first | exact Below.refl _ _ | assumption | (refine Below.drewN ?_ _) | (refine Below.drew ?_) | (refine Below.alloc ?_ (by first | (simp; done) | (simp; omega) | omega) _) | (refine Below.setCell ?_ (by first | (simp; done) | (simp; omega) | omega) _) | (refine Below.trans ?_ (Below.mono (by assumption) (by first | (simp; done) | (simp; omega) | omega)))))⟩
  obtain ⟨p, rfl⟩ := Int.eq_ofNat_of_zero_le (show 0 ≤ d by omega)
  have hp : s.size = p + 4 := by omega
  clear h1
  obtain ⟨S1, hS1⟩ : ∃ S, S = s.extract 0 p := ⟨_, rfl⟩
  obtain ⟨S2, hS2⟩ : ∃ S, S = s.extract (p + 1) s.size := ⟨_, rfl⟩
  have z1 : S1.size = p := by rw [hS1, sz_take s (by omega)]
  have z2 : S2.size = 3 := by rw [hS2, sz_drop]; omega
  have HL : Hid ((S1 ++ S2).data.toList = s.data.toList.take p ++ s.data.toList.drop (p + 1)) := by show _ = _; rw [cat_list, hS1, hS2, ext_take, ext_drop]
  have HZ : Hid ((S1 ++ S2).size ≤ 1048576) := by show _ ≤ _; rw [ByteArray.size_append', z1, z2]; omega
  have i0 : (0 : Int) ≤ p := by omega
  have i1 : (p : Int) ≤ (s.size : Int) := by omega
  have i2 : (0 : Int) ≤ (p : Int) + 1 := by omega
  have i3 : (p : Int) + 1 ≤ (s.size : Int) := by omega
  have i4 : ((p : Int) + 1).toNat = p + 1 := by omega
  have i5 : IntKind.i64.wrap ((p : Int) + 1) = (p : Int) + 1 := IntWalk.i64_in _ (by omega)
  have i6 : ¬ 9223372036854775807 < S1.size + S2.size := by omega
  have i7 : ¬ 9223372036854775807 < p + 3 := by omega
  have hsp : ((s.size : Int) == (p : Int) + 4) = true := by simp; omega
  have g1 : s.extract 0 p = S1 := hS1.symm
  have g2 : s.extract (p + 1) (p + 4) = S2 := by rw [hS2, hp]
  have g3 : s.extract (p + 1) s.size = S2 := hS2.symm
  have hsn : ((s.size : Int) != (p : Int) + 4) = false := by simp [bne, hsp]
  have HP := Lib.hid hp
  clear hS1 hS2 hp g2
  by_cases hpv : ∃ v, Lib.parseIntB 64 (S1 ++ S2).data.toList = .ok v
  · obtain ⟨v, hv⟩ := hpv
    have hvb := Lib.parseIntB_bounds hv
    have HV := Lib.hid hv
    clear hv
    have v1 : -9223372036854775808 ≤ v := by have := hvb.1; simpa using this
    have v2 : v ≤ 9223372036854775807 := by have := hvb.2; simp at this; omega
    clear hvb
    obtain ⟨V, hVs⟩ : ∃ V, V = tx (atT v) := ⟨_, rfl⟩
    have HVs := Lib.hid hVs
    clear hVs
    by_cases he : V = s
    · have hin : inB v (-359999) 359999 = true := by
        cases c : inB v (-359999) 359999
        · exfalso
          have := HVs.out
          rw [atT_no c, he] at this
          have e2 : s.size = 0 := by rw [this]; rfl
          have := HP.out
          omega
        · rfl
      have HY : Hid (IsAng s.data.toList v) := ⟨by rw [← he, HVs.out, tx_list, atT_yes hin], inB_t hin⟩
      have HR := Lib.hid (ra_yes HY.out)
      have HVs2 : Hid (s = tx (atT v)) := by rw [← he]; exact HVs
      clear HVs he hin
      go_enter Tryd.func37, Tryd.ntmps37
      go_wp2_with fail
      (with_reducible refine (shIndex _ _).mono ?_)
      rintro e w' ⟨rfl, rfl⟩
      rw [HD.out]
      go_wp2_with fail
      go_region_held3 (fun w' => True) (simp [*, World.cell?_alloc_some, World.cell?_setCell_far, World.cell?_alloc_past, nn_e2, nn_e3, nn_e4, nn_f2, nn_f3, nn_f4, nn_l2, nn_l3, nn_l4, nn_m3, nn_m4, nn_k4]) (first | (go_at_call 77; (with_reducible refine (shParseOk _ v _ HZ.out HV.out).mono ?_); rintro e w' ⟨rfl, hb1⟩))
      go_wp2_with fail
      (with_reducible refine (iAngleText _ _ (HT.out.below (by (repeat (first | exact Below.refl _ _ | assumption | (refine Below.drewN ?_ _) | (refine Below.drew ?_) | (refine Below.alloc ?_ (by first | (simp; done) | (simp; omega) | omega) _) | (refine Below.setCell ?_ (by first | (simp; done) | (simp; omega) | omega) _) | (refine Below.trans ?_ (Below.mono (by assumption) (by first | (simp; done) | (simp; omega) | omega)))))))).mono ?_)
      rintro e w2 ⟨rfl, hb2⟩
      rw [← HVs2.out]
      have hs1 := hb1.size
      (try simp at hs1)
      go_wp2
      go_ret2
      exact ⟨ret_ib HR.out.2.symm HR.out.1.symm, by (repeat (first | exact Below.refl _ _ | assumption | (refine Below.drewN ?_ _) | (refine Below.drew ?_) | (refine Below.alloc ?_ (by first | (simp; done) | (simp; omega) | omega) _) | (refine Below.setCell ?_ (by first | (simp; done) | (simp; omega) | omega) _) | (refine Below.trans ?_ (Below.mono (by assumption) (by first | (simp; done) | (simp; omega) | omega)))))⟩
    · have HB := Lib.hid (ra_no (l := s.data.toList) (by
        rintro ⟨n, hn⟩
        have e := hn.parse (d := p) HD.out.symm
        rw [← HL.out, HV.out] at e
        injection e with e
        subst e
        exact he (by rw [HVs.out, atT_yes (inB_mk hn.2), hn.1]; exact (tx_of s).symm)))
      have hne : (V.toList == s.toList) = false := beq_false_of_ne (fun e => he (tl_inj e))
      go_enter Tryd.func37, Tryd.ntmps37
      go_wp2_with fail
      (with_reducible refine (shIndex _ _).mono ?_)
      rintro e w' ⟨rfl, rfl⟩
      rw [HD.out]
      go_wp2_with fail
      go_region_held3 (fun w' => True) (simp [*, World.cell?_alloc_some, World.cell?_setCell_far, World.cell?_alloc_past, nn_e2, nn_e3, nn_e4, nn_f2, nn_f3, nn_f4, nn_l2, nn_l3, nn_l4, nn_m3, nn_m4, nn_k4]) (first | (go_at_call 77; (with_reducible refine (shParseOk _ v _ HZ.out HV.out).mono ?_); rintro e w' ⟨rfl, hb1⟩))
      go_wp2_with fail
      (with_reducible refine (iAngleText _ _ (HT.out.below (by (repeat (first | exact Below.refl _ _ | assumption | (refine Below.drewN ?_ _) | (refine Below.drew ?_) | (refine Below.alloc ?_ (by first | (simp; done) | (simp; omega) | omega) _) | (refine Below.setCell ?_ (by first | (simp; done) | (simp; omega) | omega) _) | (refine Below.trans ?_ (Below.mono (by assumption) (by first | (simp; done) | (simp; omega) | omega)))))))).mono ?_)
      rintro e w2 ⟨rfl, hb2⟩
      rw [← HVs.out]
      have hs1 := hb1.size
      (try simp at hs1)
      go_wp2
      go_ret2
      exact ⟨ret_ib HB.out.2.symm HB.out.1.symm, by (repeat (first | exact Below.refl _ _ | assumption | (refine Below.drewN ?_ _) | (refine Below.drew ?_) | (refine Below.alloc ?_ (by first | (simp; done) | (simp; omega) | omega) _) | (refine Below.setCell ?_ (by first | (simp; done) | (simp; omega) | omega) _) | (refine Below.trans ?_ (Below.mono (by assumption) (by first | (simp; done) | (simp; omega) | omega)))))⟩
  · have hp' : Hid (∀ v, Lib.parseIntB 64 (S1 ++ S2).data.toList ≠ .ok v) := fun v h => hpv ⟨v, h⟩
    have HB := Lib.hid (ra_no (l := s.data.toList) (by
      rintro ⟨n, hn⟩
      have e := hn.parse (d := p) HD.out.symm
      rw [← HL.out] at e
      exact hp'.out n e))
    clear hpv
    go_enter Tryd.func37, Tryd.ntmps37
    go_wp2_with fail
    (with_reducible refine (shIndex _ _).mono ?_)
    rintro e w' ⟨rfl, rfl⟩
    rw [HD.out]
    go_wp2_with fail
    go_region_held3 (fun w' => True) (simp [*, World.cell?_alloc_some, World.cell?_setCell_far, World.cell?_alloc_past, nn_e2, nn_e3, nn_e4, nn_f2, nn_f3, nn_f4, nn_l2, nn_l3, nn_l4, nn_m3, nn_m4, nn_k4]) (first | (go_at_call 77; (with_reducible refine (shParseNo _ _ HZ.out hp'.out (HE.out.below (by (repeat (first | exact Below.refl _ _ | assumption | (refine Below.drewN ?_ _) | (refine Below.drew ?_) | (refine Below.alloc ?_ (by first | (simp; done) | (simp; omega) | omega) _) | (refine Below.setCell ?_ (by first | (simp; done) | (simp; omega) | omega) _) | (refine Below.trans ?_ (Below.mono (by assumption) (by first | (simp; done) | (simp; omega) | omega)))))))).mono ?_); rintro e w' ⟨v, t, N, rfl, hb1⟩))
    go_wp2
    go_ret2
    exact ⟨ret_ib HB.out.2.symm HB.out.1.symm, by (repeat (first | exact Below.refl _ _ | assumption | (refine Below.drewN ?_ _) | (refine Below.drew ?_) | (refine Below.alloc ?_ (by first | (simp; done) | (simp; omega) | omega) _) | (refine Below.setCell ?_ (by first | (simp; done) | (simp; omega) | omega) _) | (refine Below.trans ?_ (Below.mono (by assumption) (by first | (simp; done) | (simp; omega) | omega)))))⟩
theorem ang_bad {t : List UInt8} {u k : Nat} {c : Int} (h : t = bod u) (hk : k < t.length) (hm : k ≠ t.length - 4) (e : c = ((t.getD k 0).toNat : Int)) (g : ¬ (48 ≤ c ∧ c ≤ 57)) : False := by
  subst h
  have := bod_isDg hk hm
  unfold isDg at this
  exact g (by omega)
set_option maxRecDepth 100000 in
set_option maxHeartbeats 8000000 in
theorem sReadA (s : ByteArray) (w : World) (hs : s.size ≤ 1048576) :
    Calls Tryd.prog 78 #[.string s] w fun e w' => e = .returned (.tuple #[.int .i64 (raV s.data.toList), .bool (raB s.data.toList)]) ∧ Below w.heap.size w w' := by
  by_cases h0 : s.size = 0
  · have HB := Lib.hid (ra_no (l := s.data.toList) (by rintro ⟨n, hn⟩; have := hn.len; rw [sz_list] at this; omega))
    go_enter Tryd.func78, Tryd.ntmps78
    go_wp2
    go_ret2
    exact ⟨ret_ib HB.out.2.symm HB.out.1.symm, by (repeat (first | exact Below.refl _ _ | assumption | (refine Below.drewN ?_ _) | (refine Below.drew ?_) | (refine Below.alloc ?_ (by first | (simp; done) | (simp; omega) | omega) _) | (refine Below.setCell ?_ (by first | (simp; done) | (simp; omega) | omega) _) | (refine Below.trans ?_ (Below.mono (by assumption) (by first | (simp; done) | (simp; omega) | omega)))))⟩
  have hz : 0 < s.size := by omega
  have e0 := bAt_eq s 0 hz
  by_cases hm : bAt s 0 = 45
  · have Hh := Lib.hid (head_neg (l := s.data.toList) (by rw [sz_list]; exact hz) (bAt_list s 0) hm)
    rw [hm] at e0
    clear hm
    obtain ⟨T, hT⟩ : ∃ T, s.extract 1 s.size = T := ⟨_, rfl⟩
    have HTl : Hid (T.data.toList = s.data.toList.drop 1) := by show _ = _; rw [← hT, ext_drop]
    have HTs : Hid (T.size = s.size - 1) := by show _ = _; rw [← hT, sz_drop]
    have HA : Hid (∀ n, IsAng s.data.toList n → n < 0 ∧ T.data.toList = bod n.natAbs ∧ n.natAbs ≤ 359999) := fun n hn => ⟨(ang_neg hn Hh.out).1, by rw [HTl.out]; exact (ang_neg hn Hh.out).2, by have := hn.2; omega⟩
    have l1 : (1 : Int) ≤ (s.size : Int) := by omega
    obtain ⟨q, hTq⟩ : ∃ q, T.size = q := ⟨_, rfl⟩
    have HTL : Hid (T.data.toList.length = q) := hTq
    have hq2 : q ≤ 1048576 := by have := HTs.out; omega
    by_cases h5 : q < 5 ∨ 7 < q
    · have HB := Lib.hid (ra_no (l := s.data.toList) (by
        rintro ⟨n, hn⟩
        have hh := (HA.out n hn).2
        have := bod_len2 hh.2
        rw [← hh.1, HTL.out] at this
        omega))
      rcases h5 with h5 | h5
      all_goals
        go_enter Tryd.func78, Tryd.ntmps78
        go_wp2
        go_ret2
        exact ⟨ret_ib HB.out.2.symm HB.out.1.symm, by (repeat (first | exact Below.refl _ _ | assumption | (refine Below.drewN ?_ _) | (refine Below.drew ?_) | (refine Below.alloc ?_ (by first | (simp; done) | (simp; omega) | omega) _) | (refine Below.setCell ?_ (by first | (simp; done) | (simp; omega) | omega) _) | (refine Below.trans ?_ (Below.mono (by assumption) (by first | (simp; done) | (simp; omega) | omega)))))⟩
    have hq5 : 5 ≤ q := by omega
    have hq7 : q ≤ 7 := by omega
    clear h5
    have e4 := bAt_eq T (q - 4) (by rw [hTq]; omega)
    have j0 : (0 : Int) ≤ (q : Int) - 4 := by omega
    have j1 : (q : Int) - 4 < q := by omega
    have j2 : ((q : Int) - 4).toNat = q - 4 := by omega
    by_cases hd : bAt T (q - 4) = 46
    · rw [hd] at e4
      clear hd
      go_enter Tryd.func78, Tryd.ntmps78
      go_wp2
      go_loop [6, 7] (fun n i => ∃ (k : Nat) (N : Int), k ≤ q ∧ i = .int .i64 k ∧ n = .int .i64 N ∧ 0 ≤ N ∧ N ≤ 9999999 ∧ Hid (Ra T.data.toList (q - 4) k N)) (fun _ i => q - (intOf i).toNat)
      case atStart => exact ⟨0, 0, by omega, rfl, rfl, by omega, by omega, Ra.start _ _⟩
      case round =>
        obtain ⟨k, N, hk, rfl, rfl, hN0, hN1, HR⟩ := hrel
        by_cases hlt : k < q
        · by_cases hm : k = q - 4
          · have hm' : ((k : Int) == (q : Int) - 4) = true := by simp; omega
            have HR' : Hid (Ra T.data.toList (q - 4) (k + 1) N) := by
              have h := HR.out
              rw [hm] at h ⊢
              exact h.skip (by rw [HTL.out]; omega)
            clear HR
            go_wp2
            go_round
            case rel => exact ⟨k + 1, N, by omega, by go_num, rfl, hN0, hN1, HR'⟩
            case measure => simp [intOf]; omega
          · have hm' : ((k : Int) == (q : Int) - 4) = false := beq_false_of_ne (by omega)
            have e := bAt_eq T k (by rw [hTq]; exact hlt)
            have hb := bAt_bd T k
            have HC := Lib.hid (bAt_list T k)
            by_cases g : 48 ≤ bAt T k ∧ bAt T k ≤ 57
            · have HR' := Lib.hid (HR.out.step (by rw [HTL.out]; exact hlt) hm HC.out g.1 g.2)
              have hN3 := (HR'.out.bd (by omega)).2
              obtain ⟨g1, g2⟩ := g
              clear HC
              rw [← e] at g1 g2 hN3 HR' hb
              clear e
              go_wp2
              go_round
              case rel => exact ⟨k + 1, _, by omega, by go_num, by first | rfl | go_num, by omega, by omega, by first | exact HR' | (have := HR'.out; simpa using this)⟩
              case measure => simp [intOf]; omega
            · have HB := Lib.hid (ra_no (by rintro ⟨n, hn⟩; have hh := (HA.out n hn).2; exact ang_bad hh.1 (by rw [HTL.out]; exact hlt) (by rw [HTL.out]; exact hm) (bAt_list T k) g))
              rw [← e] at g hb
              clear HC e
              have g' : (T[k].toNat : Int) < 48 ∨ 57 < (T[k].toNat : Int) := by omega
              clear g
              rcases g' with g' | g'
              · go_wp2
                go_ret2
                exact ⟨ret_ib HB.out.2.symm HB.out.1.symm, by (repeat (first | exact Below.refl _ _ | assumption | (refine Below.drewN ?_ _) | (refine Below.drew ?_) | (refine Below.alloc ?_ (by first | (simp; done) | (simp; omega) | omega) _) | (refine Below.setCell ?_ (by first | (simp; done) | (simp; omega) | omega) _) | (refine Below.trans ?_ (Below.mono (by assumption) (by first | (simp; done) | (simp; omega) | omega)))))⟩
              · go_wp2
                go_ret2
                exact ⟨ret_ib HB.out.2.symm HB.out.1.symm, by (repeat (first | exact Below.refl _ _ | assumption | (refine Below.drewN ?_ _) | (refine Below.drew ?_) | (refine Below.alloc ?_ (by first | (simp; done) | (simp; omega) | omega) _) | (refine Below.setCell ?_ (by first | (simp; done) | (simp; omega) | omega) _) | (refine Below.trans ?_ (Below.mono (by assumption) (by first | (simp; done) | (simp; omega) | omega)))))⟩
        · obtain rfl : k = q := by omega
          have HU : Hid (∀ n, IsAng s.data.toList n → n = -N) := fun n hn => by
            have hh := HA.out n hn
            have h : Ra (bod n.natAbs) ((bod n.natAbs).length - 4) (bod n.natAbs).length N := by rw [← hh.2.1, HTL.out]; exact HR.out
            have := Ra.bod h
            omega
          by_cases hin : -359999 ≤ -N ∧ -N ≤ 359999
          · have hinb := inB_mk hin
            obtain ⟨h3, h4⟩ := hin
            obtain ⟨V, hV⟩ : ∃ V, V = tx (atL (-N)) := ⟨_, rfl⟩
            have HV := Lib.hid hV
            clear hV
            by_cases he : V = s
            · have HY := Lib.hid (ra_yes (l := s.data.toList) (n := -N) ⟨by rw [← he, HV.out, tx_list], h3, h4⟩)
              have hne : (V.toList == s.toList) = true := by rw [he]; simp
              go_wp2_with fail
              (with_reducible refine (sIn _ _ _ _).mono ?_)
              rintro e w' ⟨rfl, rfl⟩
              go_wp2_with fail
              (with_reducible refine (sAngleT _ _ (by omega) (by omega)).mono ?_)
              rintro e w2 ⟨rfl, hb2⟩
              rw [← HV.out]
              go_wp2
              go_ret2
              exact ⟨ret_ib HY.out.2.symm HY.out.1.symm, by (repeat (first | exact Below.refl _ _ | assumption | (refine Below.drewN ?_ _) | (refine Below.drew ?_) | (refine Below.alloc ?_ (by first | (simp; done) | (simp; omega) | omega) _) | (refine Below.setCell ?_ (by first | (simp; done) | (simp; omega) | omega) _) | (refine Below.trans ?_ (Below.mono (by assumption) (by first | (simp; done) | (simp; omega) | omega)))))⟩
            · have HB := Lib.hid (ra_no (l := s.data.toList) (by
                rintro ⟨n, hn⟩
                have := HU.out n hn
                subst this
                exact he (by rw [HV.out, hn.1]; exact (tx_of s).symm)))
              have hne : (V.toList == s.toList) = false := beq_false_of_ne (fun e => he (tl_inj e))
              go_wp2_with fail
              (with_reducible refine (sIn _ _ _ _).mono ?_)
              rintro e w' ⟨rfl, rfl⟩
              go_wp2_with fail
              (with_reducible refine (sAngleT _ _ (by omega) (by omega)).mono ?_)
              rintro e w2 ⟨rfl, hb2⟩
              rw [← HV.out]
              go_wp2
              go_ret2
              exact ⟨ret_ib HB.out.2.symm HB.out.1.symm, by (repeat (first | exact Below.refl _ _ | assumption | (refine Below.drewN ?_ _) | (refine Below.drew ?_) | (refine Below.alloc ?_ (by first | (simp; done) | (simp; omega) | omega) _) | (refine Below.setCell ?_ (by first | (simp; done) | (simp; omega) | omega) _) | (refine Below.trans ?_ (Below.mono (by assumption) (by first | (simp; done) | (simp; omega) | omega)))))⟩
          · have HB := Lib.hid (ra_no (l := s.data.toList) (by
              rintro ⟨n, hn⟩
              have := HU.out n hn
              exact hin (by have := hn.2; omega)))
            have hinb := inB_no hin
            go_wp2_with (go_at_call 58; (with_reducible refine (sIn _ _ _ _).mono ?_); rintro e w' ⟨rfl, rfl⟩)
            go_ret2
            exact ⟨ret_ib HB.out.2.symm HB.out.1.symm, by (repeat (first | exact Below.refl _ _ | assumption | (refine Below.drewN ?_ _) | (refine Below.drew ?_) | (refine Below.alloc ?_ (by first | (simp; done) | (simp; omega) | omega) _) | (refine Below.setCell ?_ (by first | (simp; done) | (simp; omega) | omega) _) | (refine Below.trans ?_ (Below.mono (by assumption) (by first | (simp; done) | (simp; omega) | omega)))))⟩
    · have HB := Lib.hid (ra_no (l := s.data.toList) (by
        rintro ⟨n, hn⟩
        have hh := (HA.out n hn).2
        refine hd ?_
        rw [bAt_list, ← HTL.out, hh.1, bod_dot]; rfl))
      have hd1 : (bAt T (q - 4) == 46) = false := beq_false_of_ne hd
      have hd2 : (bAt T (q - 4) != 46) = true := by simp [bne, hd1]
      go_enter Tryd.func78, Tryd.ntmps78
      go_wp2
      go_ret2
      exact ⟨ret_ib HB.out.2.symm HB.out.1.symm, by (repeat (first | exact Below.refl _ _ | assumption | (refine Below.drewN ?_ _) | (refine Below.drew ?_) | (refine Below.alloc ?_ (by first | (simp; done) | (simp; omega) | omega) _) | (refine Below.setCell ?_ (by first | (simp; done) | (simp; omega) | omega) _) | (refine Below.trans ?_ (Below.mono (by assumption) (by first | (simp; done) | (simp; omega) | omega)))))⟩
  · have Hh : Hid (s.data.toList.head? ≠ some 45) := head_pos (bAt_list s 0) hm
    have hm' : ((s[0].toNat : Int) == 45) = false := by rw [e0]; simpa using hm
    clear hm e0
    have HA : Hid (∀ n, IsAng s.data.toList n → 0 ≤ n ∧ s.data.toList = bod n.natAbs ∧ n.natAbs ≤ 359999) := fun n hn => ⟨(ang_pos hn Hh.out).1, (ang_pos hn Hh.out).2, by have := hn.2; omega⟩
    obtain ⟨q, hTq⟩ : ∃ q, s.size = q := ⟨_, rfl⟩
    have HTL : Hid (s.data.toList.length = q) := hTq
    have hq2 : q ≤ 1048576 := by omega
    have hq0 : 0 < q := by omega
    by_cases h5 : q < 5 ∨ 7 < q
    · have HB := Lib.hid (ra_no (l := s.data.toList) (by
        rintro ⟨n, hn⟩
        have hh := (HA.out n hn).2
        have := bod_len2 hh.2
        rw [← hh.1, HTL.out] at this
        omega))
      rcases h5 with h5 | h5
      all_goals
        go_enter Tryd.func78, Tryd.ntmps78
        go_wp2
        go_ret2
        exact ⟨ret_ib HB.out.2.symm HB.out.1.symm, by (repeat (first | exact Below.refl _ _ | assumption | (refine Below.drewN ?_ _) | (refine Below.drew ?_) | (refine Below.alloc ?_ (by first | (simp; done) | (simp; omega) | omega) _) | (refine Below.setCell ?_ (by first | (simp; done) | (simp; omega) | omega) _) | (refine Below.trans ?_ (Below.mono (by assumption) (by first | (simp; done) | (simp; omega) | omega)))))⟩
    have hq5 : 5 ≤ q := by omega
    have hq7 : q ≤ 7 := by omega
    clear h5
    have e4 := bAt_eq s (q - 4) (by rw [hTq]; omega)
    have j0 : (0 : Int) ≤ (q : Int) - 4 := by omega
    have j1 : (q : Int) - 4 < q := by omega
    have j2 : ((q : Int) - 4).toNat = q - 4 := by omega
    by_cases hd : bAt s (q - 4) = 46
    · rw [hd] at e4
      clear hd
      go_enter Tryd.func78, Tryd.ntmps78
      go_wp2
      go_loop [6, 7] (fun n i => ∃ (k : Nat) (N : Int), k ≤ q ∧ i = .int .i64 k ∧ n = .int .i64 N ∧ 0 ≤ N ∧ N ≤ 9999999 ∧ Hid (Ra s.data.toList (q - 4) k N)) (fun _ i => q - (intOf i).toNat)
      case atStart => exact ⟨0, 0, by omega, rfl, rfl, by omega, by omega, Ra.start _ _⟩
      case round =>
        obtain ⟨k, N, hk, rfl, rfl, hN0, hN1, HR⟩ := hrel
        by_cases hlt : k < q
        · by_cases hm : k = q - 4
          · have hm' : ((k : Int) == (q : Int) - 4) = true := by simp; omega
            have HR' : Hid (Ra s.data.toList (q - 4) (k + 1) N) := by
              have h := HR.out
              rw [hm] at h ⊢
              exact h.skip (by rw [HTL.out]; omega)
            clear HR
            go_wp2
            go_round
            case rel => exact ⟨k + 1, N, by omega, by go_num, rfl, hN0, hN1, HR'⟩
            case measure => simp [intOf]; omega
          · have hm' : ((k : Int) == (q : Int) - 4) = false := beq_false_of_ne (by omega)
            have e := bAt_eq s k (by rw [hTq]; exact hlt)
            have hb := bAt_bd s k
            have HC := Lib.hid (bAt_list s k)
            by_cases g : 48 ≤ bAt s k ∧ bAt s k ≤ 57
            · have HR' := Lib.hid (HR.out.step (by rw [HTL.out]; exact hlt) hm HC.out g.1 g.2)
              have hN3 := (HR'.out.bd (by omega)).2
              obtain ⟨g1, g2⟩ := g
              clear HC
              rw [← e] at g1 g2 hN3 HR' hb
              clear e
              go_wp2
              go_round
              case rel => exact ⟨k + 1, _, by omega, by go_num, by first | rfl | go_num, by omega, by omega, by first | exact HR' | (have := HR'.out; simpa using this)⟩
              case measure => simp [intOf]; omega
            · have HB := Lib.hid (ra_no (by rintro ⟨n, hn⟩; have hh := (HA.out n hn).2; exact ang_bad hh.1 (by rw [HTL.out]; exact hlt) (by rw [HTL.out]; exact hm) (bAt_list s k) g))
              rw [← e] at g hb
              clear HC e
              have g' : (s[k].toNat : Int) < 48 ∨ 57 < (s[k].toNat : Int) := by omega
              clear g
              rcases g' with g' | g'
              · go_wp2
                go_ret2
                exact ⟨ret_ib HB.out.2.symm HB.out.1.symm, by (repeat (first | exact Below.refl _ _ | assumption | (refine Below.drewN ?_ _) | (refine Below.drew ?_) | (refine Below.alloc ?_ (by first | (simp; done) | (simp; omega) | omega) _) | (refine Below.setCell ?_ (by first | (simp; done) | (simp; omega) | omega) _) | (refine Below.trans ?_ (Below.mono (by assumption) (by first | (simp; done) | (simp; omega) | omega)))))⟩
              · go_wp2
                go_ret2
                exact ⟨ret_ib HB.out.2.symm HB.out.1.symm, by (repeat (first | exact Below.refl _ _ | assumption | (refine Below.drewN ?_ _) | (refine Below.drew ?_) | (refine Below.alloc ?_ (by first | (simp; done) | (simp; omega) | omega) _) | (refine Below.setCell ?_ (by first | (simp; done) | (simp; omega) | omega) _) | (refine Below.trans ?_ (Below.mono (by assumption) (by first | (simp; done) | (simp; omega) | omega)))))⟩
        · obtain rfl : k = q := by omega
          have HU : Hid (∀ n, IsAng s.data.toList n → n = N) := fun n hn => by
            have hh := HA.out n hn
            have h : Ra (bod n.natAbs) ((bod n.natAbs).length - 4) (bod n.natAbs).length N := by rw [← hh.2.1, HTL.out]; exact HR.out
            have := Ra.bod h
            omega
          by_cases hin : -359999 ≤ N ∧ N ≤ 359999
          · have hinb := inB_mk hin
            obtain ⟨h3, h4⟩ := hin
            obtain ⟨V, hV⟩ : ∃ V, V = tx (atL (N)) := ⟨_, rfl⟩
            have HV := Lib.hid hV
            clear hV
            by_cases he : V = s
            · have HY := Lib.hid (ra_yes (l := s.data.toList) (n := N) ⟨by rw [← he, HV.out, tx_list], h3, h4⟩)
              have hne : (V.toList == s.toList) = true := by rw [he]; simp
              go_wp2_with fail
              (with_reducible refine (sIn _ _ _ _).mono ?_)
              rintro e w' ⟨rfl, rfl⟩
              go_wp2_with fail
              (with_reducible refine (sAngleT _ _ (by omega) (by omega)).mono ?_)
              rintro e w2 ⟨rfl, hb2⟩
              rw [← HV.out]
              go_wp2
              go_ret2
              exact ⟨ret_ib HY.out.2.symm HY.out.1.symm, by (repeat (first | exact Below.refl _ _ | assumption | (refine Below.drewN ?_ _) | (refine Below.drew ?_) | (refine Below.alloc ?_ (by first | (simp; done) | (simp; omega) | omega) _) | (refine Below.setCell ?_ (by first | (simp; done) | (simp; omega) | omega) _) | (refine Below.trans ?_ (Below.mono (by assumption) (by first | (simp; done) | (simp; omega) | omega)))))⟩
            · have HB := Lib.hid (ra_no (l := s.data.toList) (by
                rintro ⟨n, hn⟩
                have := HU.out n hn
                subst this
                exact he (by rw [HV.out, hn.1]; exact (tx_of s).symm)))
              have hne : (V.toList == s.toList) = false := beq_false_of_ne (fun e => he (tl_inj e))
              go_wp2_with fail
              (with_reducible refine (sIn _ _ _ _).mono ?_)
              rintro e w' ⟨rfl, rfl⟩
              go_wp2_with fail
              (with_reducible refine (sAngleT _ _ (by omega) (by omega)).mono ?_)
              rintro e w2 ⟨rfl, hb2⟩
              rw [← HV.out]
              go_wp2
              go_ret2
              exact ⟨ret_ib HB.out.2.symm HB.out.1.symm, by (repeat (first | exact Below.refl _ _ | assumption | (refine Below.drewN ?_ _) | (refine Below.drew ?_) | (refine Below.alloc ?_ (by first | (simp; done) | (simp; omega) | omega) _) | (refine Below.setCell ?_ (by first | (simp; done) | (simp; omega) | omega) _) | (refine Below.trans ?_ (Below.mono (by assumption) (by first | (simp; done) | (simp; omega) | omega)))))⟩
          · have HB := Lib.hid (ra_no (l := s.data.toList) (by
              rintro ⟨n, hn⟩
              have := HU.out n hn
              exact hin (by have := hn.2; omega)))
            have hinb := inB_no hin
            go_wp2_with (go_at_call 58; (with_reducible refine (sIn _ _ _ _).mono ?_); rintro e w' ⟨rfl, rfl⟩)
            go_ret2
            exact ⟨ret_ib HB.out.2.symm HB.out.1.symm, by (repeat (first | exact Below.refl _ _ | assumption | (refine Below.drewN ?_ _) | (refine Below.drew ?_) | (refine Below.alloc ?_ (by first | (simp; done) | (simp; omega) | omega) _) | (refine Below.setCell ?_ (by first | (simp; done) | (simp; omega) | omega) _) | (refine Below.trans ?_ (Below.mono (by assumption) (by first | (simp; done) | (simp; omega) | omega)))))⟩
    · have HB := Lib.hid (ra_no (l := s.data.toList) (by
        rintro ⟨n, hn⟩
        have hh := (HA.out n hn).2
        refine hd ?_
        rw [bAt_list, ← HTL.out, hh.1, bod_dot]; rfl))
      have hd1 : (bAt s (q - 4) == 46) = false := beq_false_of_ne hd
      have hd2 : (bAt s (q - 4) != 46) = true := by simp [bne, hd1]
      go_enter Tryd.func78, Tryd.ntmps78
      go_wp2
      go_ret2
      exact ⟨ret_ib HB.out.2.symm HB.out.1.symm, by (repeat (first | exact Below.refl _ _ | assumption | (refine Below.drewN ?_ _) | (refine Below.drew ?_) | (refine Below.alloc ?_ (by first | (simp; done) | (simp; omega) | omega) _) | (refine Below.setCell ?_ (by first | (simp; done) | (simp; omega) | omega) _) | (refine Below.trans ?_ (Below.mono (by assumption) (by first | (simp; done) | (simp; omega) | omega)))))⟩
theorem sReadAngle (s : ByteArray) (w : World) (hs : s.size ≤ 1048576) :
    Calls Tryd.prog 36 #[.string s] w fun e w' => e = .returned (.tuple #[.int .i64 (raV s.data.toList), .bool (raB s.data.toList)]) ∧ Below w.heap.size w w' := by
  go_enter Tryd.func36, Tryd.ntmps36
  go_wp2_with (go_at_call 78; (with_reducible refine (sReadA _ _ (by omega)).mono ?_); rintro e w' ⟨rfl, hb⟩; have hs := hb.size; (try simp at hs); (try have hz : w.heap.size < w'.heap.size := by omega); (try have hy : w.heap.size < w'.heap.size + 1 := by omega); (try have hyy : w.heap.size < w'.heap.size + 1 + 1 := by omega); (try have hz1 : w.heap.size + 1 < w'.heap.size := by omega); (try have hn : ¬ w'.heap.size = w.heap.size := by omega); (try have hn1 : ¬ w'.heap.size = w.heap.size + 1 := by omega); (try have hz2 : w.heap.size + 1 + 1 < w'.heap.size := by omega); (try have hq := Nat.lt_of_lt_of_le (by assumption) hs); (try have hq := Nat.lt_of_succ_le hs); obtain ⟨hc, hf⟩ := bcell hb; (try simp only [World.size_drew, World.cell?_drew, World.frozen?_drew, World.heap_drewN, World.cell?_drewN, World.frozen?_drewN] at hc hf))
  go_ret2
  exact ⟨rfl, by (repeat (first | exact Below.refl _ _ | assumption | (refine Below.drewN ?_ _) | (refine Below.drew ?_) | (refine Below.alloc ?_ (by first | (simp; done) | (simp; omega) | omega) _) | (refine Below.setCell ?_ (by first | (simp; done) | (simp; omega) | omega) _) | (refine Below.trans ?_ (Below.mono (by assumption) (by first | (simp; done) | (simp; omega) | omega)))))⟩
theorem walk_FnExactReadAngle (a0 : ByteArray) (w : World) (w0 : a0.size ≤ maxLen) (hT : TabIn w) (hE : ErrIn w) :
    Calls Tryd.prog 10 #[.string a0] w fun e w' => e = .returned (.bool true) ∧ Below w.heap.size w w' := by
  have HT := Lib.hid hT
  have HE := Lib.hid hE
  clear hT hE
  by_cases h : a0.size ≤ 1048576
  · clear w0
    go_enter Tryd.func10, Tryd.ntmps10
    go_wp2_with fail
    (with_reducible refine (sReadAngle _ _ h).mono ?_)
    rintro e w1 ⟨rfl, hb1⟩
    go_wp2_with fail
    (with_reducible refine (iReadAngle _ _ h (HT.out.below hb1) (HE.out.below hb1)).mono ?_)
    rintro e w2 ⟨rfl, hb⟩
    have hs1 := hb1.size
    go_wp2
    go_ret
    exact ⟨rfl, by (repeat (first | exact Below.refl _ _ | assumption | (refine Below.drewN ?_ _) | (refine Below.drew ?_) | (refine Below.alloc ?_ (by first | (simp; done) | (simp; omega) | omega) _) | (refine Below.setCell ?_ (by first | (simp; done) | (simp; omega) | omega) _) | (refine Below.trans ?_ (Below.mono (by assumption) (by first | (simp; done) | (simp; omega) | omega)))))⟩
  · unfold maxLen at w0
    have h : 1048576 < a0.size := by omega
    go_enter Tryd.func10, Tryd.ntmps10
    go_wp2
    go_ret
    exact ⟨rfl, by (repeat (first | exact Below.refl _ _ | assumption | (refine Below.drewN ?_ _) | (refine Below.drew ?_) | (refine Below.alloc ?_ (by first | (simp; done) | (simp; omega) | omega) _) | (refine Below.setCell ?_ (by first | (simp; done) | (simp; omega) | omega) _) | (refine Below.trans ?_ (Below.mono (by assumption) (by first | (simp; done) | (simp; omega) | omega)))))⟩
end Go.Proofs.YtghagmjpcebmjaaDoor
