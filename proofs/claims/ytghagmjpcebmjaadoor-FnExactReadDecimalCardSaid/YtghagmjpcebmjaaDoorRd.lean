/-
  Contracts of reading numerals.
-/
import Derived.Test.YtghagmjpcebmjaaDoorTxt
import Derived.Test.YtghagmjpcebmjaaDoorMrd
namespace Go.Proofs.YtghagmjpcebmjaaDoor
set_option linter.unusedVariables false
set_option linter.unusedSimpArgs false
open Go.RowKit
open Go.Lib (decDigits itoa)

theorem bAt_list (s : ByteArray) (k : Nat) : bAt s k = ((s.data.toList.getD k 0).toNat : Int) := rfl
theorem sz_list (s : ByteArray) : s.data.toList.length = s.size := rfl
def dgI (c : Int) : Bool := decide (48 ≤ c ∧ c ≤ 57)
theorem dgI_t {c : Int} (h : 48 ≤ c ∧ c ≤ 57) : dgI c = true := decide_eq_true h
theorem dgI_f {c : Int} (h : ¬ (48 ≤ c ∧ c ≤ 57)) : dgI c = false := decide_eq_false h
theorem tl_inj {a b : ByteArray} (h : a.toList = b.toList) : a = b := by
  rw [ByteArray.toList_eq, ByteArray.toList_eq] at h
  rw [tx_of a, tx_of b, h]
theorem ret_ib {a c : Int} {b d : Bool} (h : a = c) (g : b = d) : Ending.returned (.tuple #[.int .i64 a, .bool b]) = .returned (.tuple #[.int .i64 c, .bool d]) := by rw [h, g]
theorem sDgt (c : Int) (w : World) : Calls Tryd.prog 97 #[.int .u8 c] w fun e w' => e = .returned (.bool (dgI c)) ∧ w = w' := by
  by_cases h1 : 48 ≤ c
  · by_cases h2 : c ≤ 57
    · rw [dgI_t ⟨h1, h2⟩]
      go_enter Tryd.func97, Tryd.ntmps97
      go_wp2
      go_ret
      exact ⟨rfl, rfl⟩
    · rw [dgI_f (by omega)]
      go_enter Tryd.func97, Tryd.ntmps97
      go_wp2
      go_ret
      exact ⟨rfl, rfl⟩
  · rw [dgI_f (by omega)]
    go_enter Tryd.func97, Tryd.ntmps97
    go_wp2
    go_ret
    exact ⟨rfl, rfl⟩
set_option maxRecDepth 100000 in
set_option maxHeartbeats 4000000 in
theorem sNumber (s : ByteArray) (w : World) (hs : s.size ≤ 1048576) :
    Calls Tryd.prog 75 #[.string s] w fun e w' => e = .returned (.tuple #[.int .i64 (rdV s.data.toList), .bool (rdB s.data.toList)]) ∧ w = w' := by
  by_cases h0 : s.size = 0
  · have HB := Lib.hid (rd_no (num_no_len (l := s.data.toList) (by
      left
      have : s.data.toList = [] := List.eq_nil_of_length_eq_zero (by rw [sz_list]; exact h0)
      rw [this]; decide)))
    go_enter Tryd.func75, Tryd.ntmps75
    go_wp2
    go_ret2
    exact ⟨ret_ib HB.out.2.symm HB.out.1.symm, rfl⟩
  have hz : 0 < s.size := by omega
  have e0 := bAt_eq s 0 hz
  have hb0 := bAt_bd s 0
  by_cases hm : bAt s 0 = 45
  · have Hh := Lib.hid (head_neg (l := s.data.toList) (by rw [sz_list]; exact hz) (bAt_list s 0) hm)
    have HB0 : Hid (behind s.data.toList = s.data.toList.drop 1) := behind_drop Hh.out
    have HBL : Hid ((behind s.data.toList).length = s.size - 1) := by show _ = _; rw [HB0.out, List.length_drop, sz_list]
    by_cases h1 : s.size = 1
    · have HB := Lib.hid (rd_no (num_no_len (l := s.data.toList) (by left; rw [HBL.out]; omega)))
      rw [hm] at e0
      clear hm
      go_enter Tryd.func75, Tryd.ntmps75
      go_wp2
      go_ret2
      exact ⟨ret_ib HB.out.2.symm HB.out.1.symm, rfl⟩
    by_cases h19 : 19 < s.size
    · have HB := Lib.hid (rd_no (num_no_len (l := s.data.toList) (by right; rw [HBL.out]; omega)))
      rw [hm] at e0
      clear hm
      go_enter Tryd.func75, Tryd.ntmps75
      go_wp2
      go_ret2
      exact ⟨ret_ib HB.out.2.symm HB.out.1.symm, rfl⟩
    have hz1 : 1 < s.size := by omega
    have e1 := bAt_eq s 1 hz1
    have hb1 := bAt_bd s 1
    by_cases h48 : bAt s 1 = 48
    · have HB := Lib.hid (rd_no (num_no_zero (l := s.data.toList) (r := s.data.toList.drop 2) (x := s.data.toList.getD 1 0) (by
        rw [HB0.out, List.drop_eq_getElem_cons (by rw [sz_list]; omega)]; simp [List.getD, show 1 < s.size from hz1]) (by have := bAt_list s 1; omega) (by rw [sz_list]; omega)))
      rw [hm] at e0
      rw [h48] at e1
      clear hm h48
      go_enter Tryd.func75, Tryd.ntmps75
      go_wp2
      go_ret2
      exact ⟨ret_ib HB.out.2.symm HB.out.1.symm, rfl⟩
    · have H48 : Hid (¬ (s.data.toList.getD 1 0).toNat = 48) := fun e => h48 (by rw [bAt_list, e]; rfl)
      rw [hm] at e0
      rw [← e1] at h48
      have q0 : ((s.size : Int) == 1) = false := by simp; omega
      have q1 : decide ((18 : Int) < (s.size : Int) - 1) = false := by simp; omega
      have q2 : ((s[1].toNat : Int) == 48) = false := by simpa using h48
      clear hm hb0 hb1 e1
      go_enter Tryd.func75, Tryd.ntmps75
      go_wp2
      go_loop [5, 6] (fun n i => ∃ (k : Nat) (N : Int), 1 ≤ k ∧ k ≤ s.size ∧ i = .int .i64 k ∧ n = .int .i64 N ∧ 0 ≤ N ∧ N ≤ 999999999999999999 ∧ Hid (Rd s.data.toList 1 k N)) (fun _ i => s.size - (intOf i).toNat)
      case atStart => exact ⟨1, 0, by omega, by omega, rfl, rfl, by omega, by omega, Rd.start _ (by rw [sz_list]; omega)⟩
      case round =>
        obtain ⟨k, N, hat, hk, rfl, rfl, hN0, hN1, HR⟩ := hrel
        by_cases hlt : k < s.size
        · have e := bAt_eq s k hlt
          have hb := bAt_bd s k
          have hN2 : N ≤ 99999999999999999 := by have := (HR.out.bd (j := 17) (by omega)).2; have e17 : (10 : Nat) ^ 17 = 100000000000000000 := by decide
                                                 omega
          have HC := Lib.hid (bAt_list s k)
          by_cases g : 48 ≤ bAt s k ∧ bAt s k ≤ 57
          · have d1 := dgI_t g
            have HR' := Lib.hid (HR.out.step (by rw [sz_list]; exact hlt) HC.out g.1 g.2)
            obtain ⟨g1, g2⟩ := g
            have hN3 : 10 * N + (bAt s k - 48) ≤ 999999999999999999 := by omega
            generalize bAt s k = c at *
            go_wp2_with (go_at_call 97; (with_reducible refine (sDgt _ _).mono ?_); rintro e w' ⟨rfl, rfl⟩)
            go_round
            case rel => exact ⟨k + 1, _, by omega, by omega, by go_num, by first | rfl | go_num, by omega, by omega, by first | exact HR' | (have := HR'.out; simpa using this)⟩
            case measure => simp [intOf]; omega
          · have d1 := dgI_f g
            have HB := Lib.hid (rd_no (num_no_dig (l := s.data.toList) (by rw [HB0.out]; exact Rd.bad (by rw [sz_list]; exact hlt) hat HC.out g)))
            clear g
            generalize bAt s k = c at *
            go_wp2_with (go_at_call 97; (with_reducible refine (sDgt _ _).mono ?_); rintro e w' ⟨rfl, rfl⟩)
            go_ret2
            exact ⟨ret_ib HB.out.2.symm HB.out.1.symm, rfl⟩
        · obtain rfl : k = s.size := by omega
          have HY : Hid (IsNum s.data.toList (-N)) := num_mk1 Hh.out (by rw [sz_list]; exact HR.out) (by rw [sz_list]; omega) (by rw [sz_list]; omega) H48.out
          have HZ := Lib.hid (rd_yes HY.out)
          go_wp2_with (go_at_call 97; (with_reducible refine (sDgt _ _).mono ?_); rintro e w' ⟨rfl, rfl⟩)
          go_ret2
          exact ⟨ret_ib HZ.out.2.symm HZ.out.1.symm, rfl⟩
  · have Hh : Hid (s.data.toList.head? ≠ some 45) := head_pos (bAt_list s 0) hm
    have HB0 : Hid (behind s.data.toList = s.data.toList.drop 0) := behind_self Hh.out
    have HBL : Hid ((behind s.data.toList).length = s.size) := by show _ = _; rw [HB0.out, List.length_drop, sz_list]; omega
    have hm' : ((s[0].toNat : Int) == 45) = false := by rw [e0]; simpa using hm
    have qz : ((s.size : Int) == 0) = false := beq_false_of_ne (by omega)
    by_cases h18 : 18 < s.size
    · have HB := Lib.hid (rd_no (num_no_len (l := s.data.toList) (by right; rw [HBL.out]; omega)))
      clear hm e0
      go_enter Tryd.func75, Tryd.ntmps75
      go_wp2
      go_ret2
      exact ⟨ret_ib HB.out.2.symm HB.out.1.symm, rfl⟩
    have q1 : decide ((18 : Int) < (s.size : Int)) = false := by simp; omega
    by_cases h48 : bAt s 0 = 48
    · rw [h48] at e0
      by_cases hs1 : 1 < s.size
      · have HB := Lib.hid (rd_no (num_no_zero (l := s.data.toList) (r := s.data.toList.drop 1) (x := s.data.toList.getD 0 0) (by
          rw [HB0.out, List.drop_zero]
          have hl := sz_list s
          generalize s.data.toList = l at *
          cases l with
          | nil => simp at hl; omega
          | cons x r => rfl) (by have := bAt_list s 0; omega) (by rw [sz_list]; omega)))
        clear hm h48
        go_enter Tryd.func75, Tryd.ntmps75
        go_wp2
        go_ret2
        exact ⟨ret_ib HB.out.2.symm HB.out.1.symm, rfl⟩
      · have H48 : Hid (s.data.toList.length = 1 ∨ ¬ (s.data.toList.getD 0 0).toNat = 48) := .inl (by rw [sz_list]; omega)
        have q2 : decide ((1 : Int) < (s.size : Int)) = false := by simp; omega
        clear hm h48 hb0
        go_enter Tryd.func75, Tryd.ntmps75
        go_wp2
        go_loop [5, 6] (fun n i => ∃ (k : Nat) (N : Int), 0 ≤ k ∧ k ≤ s.size ∧ i = .int .i64 k ∧ n = .int .i64 N ∧ 0 ≤ N ∧ N ≤ 999999999999999999 ∧ Hid (Rd s.data.toList 0 k N)) (fun _ i => s.size - (intOf i).toNat)
        case atStart => exact ⟨0, 0, by omega, by omega, rfl, rfl, by omega, by omega, Rd.start _ (by rw [sz_list]; omega)⟩
        case round =>
          obtain ⟨k, N, hat, hk, rfl, rfl, hN0, hN1, HR⟩ := hrel
          by_cases hlt : k < s.size
          · have e := bAt_eq s k hlt
            have hb := bAt_bd s k
            have hN2 : N ≤ 99999999999999999 := by have := (HR.out.bd (j := 17) (by omega)).2; have e17 : (10 : Nat) ^ 17 = 100000000000000000 := by decide
                                                   omega
            have HC := Lib.hid (bAt_list s k)
            by_cases g : 48 ≤ bAt s k ∧ bAt s k ≤ 57
            · have d1 := dgI_t g
              have HR' := Lib.hid (HR.out.step (by rw [sz_list]; exact hlt) HC.out g.1 g.2)
              obtain ⟨g1, g2⟩ := g
              have hN3 : 10 * N + (bAt s k - 48) ≤ 999999999999999999 := by omega
              generalize bAt s k = c at *
              go_wp2_with (go_at_call 97; (with_reducible refine (sDgt _ _).mono ?_); rintro e w' ⟨rfl, rfl⟩)
              go_round
              case rel => exact ⟨k + 1, _, by omega, by omega, by go_num, by first | rfl | go_num, by omega, by omega, by first | exact HR' | (have := HR'.out; simpa using this)⟩
              case measure => simp [intOf]; omega
            · have d1 := dgI_f g
              have HB := Lib.hid (rd_no (num_no_dig (l := s.data.toList) (by rw [HB0.out]; exact Rd.bad (by rw [sz_list]; exact hlt) hat HC.out g)))
              clear g
              generalize bAt s k = c at *
              go_wp2_with (go_at_call 97; (with_reducible refine (sDgt _ _).mono ?_); rintro e w' ⟨rfl, rfl⟩)
              go_ret2
              exact ⟨ret_ib HB.out.2.symm HB.out.1.symm, rfl⟩
          · obtain rfl : k = s.size := by omega
            have HY : Hid (IsNum s.data.toList (N)) := num_mk0 Hh.out (by rw [sz_list]; exact HR.out) (by rw [sz_list]; omega) (by rw [sz_list]; omega) H48.out
            have HZ := Lib.hid (rd_yes HY.out)
            go_wp2_with (go_at_call 97; (with_reducible refine (sDgt _ _).mono ?_); rintro e w' ⟨rfl, rfl⟩)
            go_ret2
            exact ⟨ret_ib HZ.out.2.symm HZ.out.1.symm, rfl⟩
    · have H48 : Hid (s.data.toList.length = 1 ∨ ¬ (s.data.toList.getD 0 0).toNat = 48) := .inr (fun e => h48 (by rw [bAt_list, e]; rfl))
      have q2 : ((s[0].toNat : Int) == 48) = false := by rw [e0]; simpa using h48
      clear hm h48 hb0 e0
      go_enter Tryd.func75, Tryd.ntmps75
      go_wp2
      go_loop [5, 6] (fun n i => ∃ (k : Nat) (N : Int), 0 ≤ k ∧ k ≤ s.size ∧ i = .int .i64 k ∧ n = .int .i64 N ∧ 0 ≤ N ∧ N ≤ 999999999999999999 ∧ Hid (Rd s.data.toList 0 k N)) (fun _ i => s.size - (intOf i).toNat)
      case atStart => exact ⟨0, 0, by omega, by omega, rfl, rfl, by omega, by omega, Rd.start _ (by rw [sz_list]; omega)⟩
      case round =>
        obtain ⟨k, N, hat, hk, rfl, rfl, hN0, hN1, HR⟩ := hrel
        by_cases hlt : k < s.size
        · have e := bAt_eq s k hlt
          have hb := bAt_bd s k
          have hN2 : N ≤ 99999999999999999 := by have := (HR.out.bd (j := 17) (by omega)).2; have e17 : (10 : Nat) ^ 17 = 100000000000000000 := by decide
                                                 omega
          have HC := Lib.hid (bAt_list s k)
          by_cases g : 48 ≤ bAt s k ∧ bAt s k ≤ 57
          · have d1 := dgI_t g
            have HR' := Lib.hid (HR.out.step (by rw [sz_list]; exact hlt) HC.out g.1 g.2)
            obtain ⟨g1, g2⟩ := g
            have hN3 : 10 * N + (bAt s k - 48) ≤ 999999999999999999 := by omega
            generalize bAt s k = c at *
            go_wp2_with (go_at_call 97; (with_reducible refine (sDgt _ _).mono ?_); rintro e w' ⟨rfl, rfl⟩)
            go_round
            case rel => exact ⟨k + 1, _, by omega, by omega, by go_num, by first | rfl | go_num, by omega, by omega, by first | exact HR' | (have := HR'.out; simpa using this)⟩
            case measure => simp [intOf]; omega
          · have d1 := dgI_f g
            have HB := Lib.hid (rd_no (num_no_dig (l := s.data.toList) (by rw [HB0.out]; exact Rd.bad (by rw [sz_list]; exact hlt) hat HC.out g)))
            clear g
            generalize bAt s k = c at *
            go_wp2_with (go_at_call 97; (with_reducible refine (sDgt _ _).mono ?_); rintro e w' ⟨rfl, rfl⟩)
            go_ret2
            exact ⟨ret_ib HB.out.2.symm HB.out.1.symm, rfl⟩
        · obtain rfl : k = s.size := by omega
          have HY : Hid (IsNum s.data.toList (N)) := num_mk0 Hh.out (by rw [sz_list]; exact HR.out) (by rw [sz_list]; omega) (by rw [sz_list]; omega) H48.out
          have HZ := Lib.hid (rd_yes HY.out)
          go_wp2_with (go_at_call 97; (with_reducible refine (sDgt _ _).mono ?_); rintro e w' ⟨rfl, rfl⟩)
          go_ret2
          exact ⟨ret_ib HZ.out.2.symm HZ.out.1.symm, rfl⟩
theorem sReadDec (s : ByteArray) (w : World) (hs : s.size ≤ 1048576) :
    Calls Tryd.prog 34 #[.string s] w fun e w' => e = .returned (.tuple #[.int .i64 (rdV s.data.toList), .bool (rdB s.data.toList)]) ∧ w = w' := by
  go_enter Tryd.func34, Tryd.ntmps34
  go_wp2_with (go_at_call 75; (with_reducible refine (sNumber _ _ (by omega)).mono ?_); rintro e w' ⟨rfl, rfl⟩)
  go_ret2
  exact ⟨rfl, rfl⟩
theorem shTrim (s : ByteArray) (w : World) :
    Calls Tryd.prog 76 #[.string s, .string ⟨#[45]⟩] w fun e w' => e = .returned (.string (tx (behind s.data.toList))) ∧ w = w' :=
  (Tryd.strings_TrimPrefix s ⟨#[45]⟩ w).mono fun e w' ⟨he, hw⟩ => ⟨by rw [he, ← trim_behind]; rfl, hw.symm⟩
/-- What the library's parse ends in, where it does not take a text. -/
def ParseFell (w : World) (e : Ending) (w' : World) : Prop := ∃ (v : Int) (t : TypeId) (N : Nat), e = .returned (.tuple #[.int .i64 v, .iface t (.pointer (some ⟨N, 0, none⟩))]) ∧ Below w.heap.size w w'
theorem shParseOk (s : ByteArray) (v : Int) (w : World) (hs : s.size ≤ 1048576) (h : Lib.parseIntB 64 s.data.toList = .ok v) :
    Calls Tryd.prog 77 #[.string s, .int .i64 10, .int .i64 64] w fun e w' => e = .returned (.tuple #[.int .i64 v, .nilIface]) ∧ Below w.heap.size w w' :=
  (Tryd.strconv_ParseInt_10_at64_ok s (by omega) v h w).mono fun e w' ⟨he, hw⟩ => ⟨he, by
    rcases hw with rfl | ⟨t, rfl⟩
    · exact Below.refl _ _
    · exact Lib.bytesWorld_below _ _ _⟩
theorem shParseNo (s : ByteArray) (w : World) (hs : s.size ≤ 1048576) (h : ∀ v, Lib.parseIntB 64 s.data.toList ≠ .ok v) (hE : ErrIn w) :
    Calls Tryd.prog 77 #[.string s, .int .i64 10, .int .i64 64] w (ParseFell w) := by
  obtain ⟨⟨t1, p1, h1⟩, t2, p2, h2⟩ := hE
  rcases c : Lib.parseIntB 64 s.data.toList with v | _ | _
  · exact absurd c (h v)
  · exact (Tryd.strconv_ParseInt_10_at64_syntax_var s (by omega) c t1 p1 w h1).mono fun e w' ⟨N, he, _, _, hb⟩ => ⟨_, _, N, he, hb⟩
  · exact (Tryd.strconv_ParseInt_10_at64_range_var s (by omega) c t2 p2 w h2).mono fun e w' ⟨N, he, _, _, hb⟩ => ⟨_, _, N, he, hb⟩
set_option maxHeartbeats 1000000 in
theorem iReadDec (s : ByteArray) (w : World) (hs : s.size ≤ 1048576) (hT : TabIn w) (hE : ErrIn w) :
    Calls Tryd.prog 35 #[.string s] w fun e w' => e = .returned (.tuple #[.int .i64 (rdV s.data.toList), .bool (rdB s.data.toList)]) ∧ Below w.heap.size w w' := by
  have HT := Lib.hid hT
  have HE := Lib.hid hE
  clear hT hE
  obtain ⟨D, hD⟩ : ∃ D, D = tx (behind s.data.toList) := ⟨_, rfl⟩
  have HDl : Hid ((behind s.data.toList).length = D.size) := by show _ = _; rw [hD, tx_size]
  have HD := Lib.hid hD
  clear hD
  by_cases h1 : D.size < 1 ∨ 18 < D.size
  · have HB := Lib.hid (rd_no (num_no_len (l := s.data.toList) (by rw [HDl.out]; exact h1)))
    rcases h1 with h1 | h1
    all_goals
      go_enter Tryd.func35, Tryd.ntmps35
      go_wp2_with fail
      (with_reducible refine (shTrim _ _).mono ?_)
      rintro e w' ⟨rfl, rfl⟩
      rw [← HD.out]
      go_wp2
      go_ret2
      exact ⟨ret_ib HB.out.2.symm HB.out.1.symm, by (repeat (first | exact Below.refl _ _ | assumption | (refine Below.drewN ?_ _) | (refine Below.drew ?_) | (refine Below.alloc ?_ (by first | (simp; done) | (simp; omega) | omega) _) | (refine Below.setCell ?_ (by first | (simp; done) | (simp; omega) | omega) _) | (refine Below.trans ?_ (Below.mono (by assumption) (by first | (simp; done) | (simp; omega) | omega)))))⟩
  have b1 : 1 ≤ D.size := by omega
  have b2 : D.size ≤ 18 := by omega
  clear h1
  by_cases hp : ∃ v, Lib.parseIntB 64 s.data.toList = .ok v
  · obtain ⟨v, hv⟩ := hp
    have hvb := Lib.parseIntB_bounds hv
    have HV := Lib.hid hv
    clear hv
    have v1 : -9223372036854775808 ≤ v := by have := hvb.1; simpa using this
    have v2 : v ≤ 9223372036854775807 := by have := hvb.2; simp at this; omega
    clear hvb
    obtain ⟨V, hVs⟩ : ∃ V, V = tx (itoa v) := ⟨_, rfl⟩
    have HVs := Lib.hid hVs
    clear hVs
    by_cases he : V = s
    · have HY : Hid (IsNum s.data.toList v) := num_yes (by rw [← he, HVs.out, tx_list]) (by rw [HDl.out]; exact b2)
      have HZ := Lib.hid (rd_yes HY.out)
      have HVs2 : Hid (s = tx (itoa v)) := by rw [← he]; exact HVs
      clear HVs he
      go_enter Tryd.func35, Tryd.ntmps35
      go_wp2_with fail
      (with_reducible refine (shTrim _ _).mono ?_)
      rintro e w' ⟨rfl, rfl⟩
      rw [← HD.out]
      go_wp2_with fail
      (with_reducible refine (shParseOk _ v _ hs HV.out).mono ?_)
      rintro e w1 ⟨rfl, hb1⟩
      go_wp2_with fail
      (with_reducible refine (iDecimal _ _ (by omega) (by omega) (HT.out.below hb1)).mono ?_)
      rintro e w2 ⟨rfl, hb2⟩
      rw [← HVs2.out]
      have hs1 := hb1.size
      go_wp2
      go_ret2
      exact ⟨ret_ib HZ.out.2.symm HZ.out.1.symm, by (repeat (first | exact Below.refl _ _ | assumption | (refine Below.drewN ?_ _) | (refine Below.drew ?_) | (refine Below.alloc ?_ (by first | (simp; done) | (simp; omega) | omega) _) | (refine Below.setCell ?_ (by first | (simp; done) | (simp; omega) | omega) _) | (refine Below.trans ?_ (Below.mono (by assumption) (by first | (simp; done) | (simp; omega) | omega)))))⟩
    · have HB := Lib.hid (rd_no (num_of_parse HV.out (fun e => he (by rw [HVs.out, e]; exact (tx_of s).symm))))
      have hne : (V.toList == s.toList) = false := beq_false_of_ne (fun e => he (tl_inj e))
      go_enter Tryd.func35, Tryd.ntmps35
      go_wp2_with fail
      (with_reducible refine (shTrim _ _).mono ?_)
      rintro e w' ⟨rfl, rfl⟩
      rw [← HD.out]
      go_wp2_with fail
      (with_reducible refine (shParseOk _ v _ hs HV.out).mono ?_)
      rintro e w1 ⟨rfl, hb1⟩
      go_wp2_with fail
      (with_reducible refine (iDecimal _ _ (by omega) (by omega) (HT.out.below hb1)).mono ?_)
      rintro e w2 ⟨rfl, hb2⟩
      rw [← HVs.out]
      have hs1 := hb1.size
      go_wp2
      go_ret2
      exact ⟨ret_ib HB.out.2.symm HB.out.1.symm, by (repeat (first | exact Below.refl _ _ | assumption | (refine Below.drewN ?_ _) | (refine Below.drew ?_) | (refine Below.alloc ?_ (by first | (simp; done) | (simp; omega) | omega) _) | (refine Below.setCell ?_ (by first | (simp; done) | (simp; omega) | omega) _) | (refine Below.trans ?_ (Below.mono (by assumption) (by first | (simp; done) | (simp; omega) | omega)))))⟩
  · have hp' : Hid (∀ v, Lib.parseIntB 64 s.data.toList ≠ .ok v) := fun v h => hp ⟨v, h⟩
    have HB := Lib.hid (rd_no (num_no_parse hp'.out))
    clear hp
    go_enter Tryd.func35, Tryd.ntmps35
    go_wp2_with fail
    (with_reducible refine (shTrim _ _).mono ?_)
    rintro e w' ⟨rfl, rfl⟩
    rw [← HD.out]
    go_wp2_with fail
    (with_reducible refine (shParseNo _ _ hs hp'.out HE.out).mono ?_)
    rintro e w1 ⟨v, t, N, rfl, hb1⟩
    go_wp2
    go_ret2
    exact ⟨ret_ib HB.out.2.symm HB.out.1.symm, by (repeat (first | exact Below.refl _ _ | assumption | (refine Below.drewN ?_ _) | (refine Below.drew ?_) | (refine Below.alloc ?_ (by first | (simp; done) | (simp; omega) | omega) _) | (refine Below.setCell ?_ (by first | (simp; done) | (simp; omega) | omega) _) | (refine Below.trans ?_ (Below.mono (by assumption) (by first | (simp; done) | (simp; omega) | omega)))))⟩
theorem walk_FnExactReadDecimal (a0 : ByteArray) (w : World) (w0 : a0.size ≤ maxLen) (hT : TabIn w) (hE : ErrIn w) :
    Calls Tryd.prog 9 #[.string a0] w fun e w' => e = .returned (.bool true) ∧ Below w.heap.size w w' := by
  have HT := Lib.hid hT
  have HE := Lib.hid hE
  clear hT hE
  by_cases h : a0.size ≤ 1048576
  · clear w0
    go_enter Tryd.func9, Tryd.ntmps9
    go_wp2_with fail
    (with_reducible refine (sReadDec _ _ h).mono ?_)
    rintro e w' ⟨rfl, rfl⟩
    go_wp2_with fail
    (with_reducible refine (iReadDec _ _ h HT.out HE.out).mono ?_)
    rintro e w1 ⟨rfl, hb⟩
    go_wp2
    go_ret
    exact ⟨rfl, by (repeat (first | exact Below.refl _ _ | assumption | (refine Below.drewN ?_ _) | (refine Below.drew ?_) | (refine Below.alloc ?_ (by first | (simp; done) | (simp; omega) | omega) _) | (refine Below.setCell ?_ (by first | (simp; done) | (simp; omega) | omega) _) | (refine Below.trans ?_ (Below.mono (by assumption) (by first | (simp; done) | (simp; omega) | omega)))))⟩
  · unfold maxLen at w0
    have h : 1048576 < a0.size := by omega
    go_enter Tryd.func9, Tryd.ntmps9
    go_wp2
    go_ret
    exact ⟨rfl, by (repeat (first | exact Below.refl _ _ | assumption | (refine Below.drewN ?_ _) | (refine Below.drew ?_) | (refine Below.alloc ?_ (by first | (simp; done) | (simp; omega) | omega) _) | (refine Below.setCell ?_ (by first | (simp; done) | (simp; omega) | omega) _) | (refine Below.trans ?_ (Below.mono (by assumption) (by first | (simp; done) | (simp; omega) | omega)))))⟩
end Go.Proofs.YtghagmjpcebmjaaDoor
