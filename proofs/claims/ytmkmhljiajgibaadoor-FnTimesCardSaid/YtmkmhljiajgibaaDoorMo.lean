/-
  Contracts of moments as texts.
-/
import Derived.Test.YtmkmhljiajgibaaDoorTxt
import Derived.Test.YtmkmhljiajgibaaDoorDate
import Derived.Deep.RegionHeld3
namespace Go.Proofs.YtmkmhljiajgibaaDoor
set_option linter.unusedVariables false
set_option linter.unusedSimpArgs false
open Go.RowKit
open Go.Lib (decDigits itoa)
attribute [local go_sem ↓] Go.wp_at_zero Go.wp_at_succ
attribute [local go_sem] nn_e2 nn_e3 nn_e4 nn_f2 nn_f3 nn_f4 nn_l2 nn_l3 nn_l4 nn_m3 nn_m4 nn_k4

theorem cell_ltM {w : World} {b o : Nat} {v : Value} (h : w.cell? ⟨b, o, none⟩ = some v) : b < w.heap.size := by
  rcases Nat.lt_or_ge b w.heap.size with g | g
  · exact g
  · simp [World.cell?, Array.getElem?_eq_none g] at h
theorem IsDate.next {D y m d : Int} (h : IsDate D y m d) : ∃ y' m' d', IsDate (D + 1) y' m' d' := by
  obtain ⟨h1, h2, h3, h4, h5, h6⟩ := h
  by_cases c : d + 1 ≤ mlen y m
  · exact ⟨y, m, d + 1, h1, h2, h3, by omega, c, by omega⟩
  · by_cases e : m < 12
    · have a := cum_succ y m h2
      have b := mlen_bd y (m + 1)
      exact ⟨y, m + 1, 1, h1, by omega, by omega, by omega, by omega, by omega⟩
    · obtain rfl : m = 12 := by omega
      have a := cum_succ y 12 (by omega)
      have b := cum_13 y
      have f := dby_succ y h1
      have g := mlen_bd (y + 1) 1
      have k : cum (y + 1) 1 = 0 := rfl
      exact ⟨y + 1, 1, 1, by omega, by omega, by omega, by omega, by omega, by rw [show (12 : Int) + 1 = 13 from rfl] at a; omega⟩
theorem date_ex (n : Nat) : ∃ y m d, IsDate n y m d := by
  induction n with
  | zero => exact ⟨2000, 1, 1, by omega, by omega, by omega, by omega, by decide, by decide⟩
  | succ n ih =>
    obtain ⟨y, m, d, h⟩ := ih
    obtain ⟨y', m', d', h'⟩ := h.next
    exact ⟨y', m', d', by rw [show ((n + 1 : Nat) : Int) = n + 1 by omega]; exact h'⟩
theorem date_of {D : Int} (h : inB D 0 99999 = true) : ∃ y m d, IsDate D y m d ∧ dY D = y ∧ dM D = m ∧ dD D = d ∧ dC D = 0 := by
  have hb := inB_t h
  obtain ⟨y, m, d, hd⟩ := date_ex D.toNat
  rw [show ((D.toNat : Nat) : Int) = D by omega] at hd
  exact ⟨y, m, d, hd, date_eq h hd⟩
/-- A moment as a text. -/
def moL (y mo d m : Int) : List UInt8 := itoa y ++ [45] ++ pd 2 (itoa mo) ++ [45] ++ pd 2 (itoa d) ++ [32] ++ pd 2 (itoa (m / 3600000)) ++ [58] ++ pd 2 (itoa (m / 60000 % 60)) ++ [58] ++ pd 2 (itoa (m / 1000 % 60)) ++ [46] ++ pd 3 (itoa (m % 1000))
noncomputable def moT (d m : Int) : List UInt8 := if okM d m then moL (dY d) (dM d) (dD d) m else []
theorem moT_no {d m : Int} (h : okM d m = false) : moT d m = [] := by unfold moT; rw [h]; rfl
theorem moT_yes {d m : Int} (h : okM d m = true) : moT d m = moL (dY d) (dM d) (dD d) m := by unfold moT; rw [h]; rfl
theorem dd_len_ge {u k : Nat} (h : 10 ^ k ≤ u) : k + 1 ≤ (decDigits u).length := by
  rcases Nat.lt_or_ge (decDigits u).length (k + 1) with g | g
  · exfalso
    have h1 := dva_lt (decDigits u) (dd_dig u) 0 1 (by omega)
    rw [dva_dd] at h1
    have h2 : 10 ^ (decDigits u).length ≤ 10 ^ k := Nat.pow_le_pow_right (by omega) (by omega)
    omega
  · exact g
theorem pd4_year {y : Int} (h : 2000 ≤ y) : pd 4 (itoa y) = itoa y := by
  refine pd_done ?_
  rw [itoa_pos (by omega)]
  exact dd_len_ge (k := 3) (by omega)
theorem txE {S : ByteArray} {l : List UInt8} {n : Int} {k : Nat} (h : S = tx l) (e : l = pd k (itoa n)) (hk : k ≤ 4) (h0 : 0 ≤ n) (h1 : n ≤ 100000) : S.size ≤ 40 :=
  sz_of h (by rw [e, pd_len]; have := itoa_len (n := n) (by omega) (by omega); omega)
theorem sz40 {S : ByteArray} {n : Int} {k : Nat} (h : S = tx (pd k (itoa n))) (hk : k ≤ 4) (h0 : 0 ≤ n) (h1 : n ≤ 100000) : S.size ≤ 40 := txE h rfl hk h0 h1
theorem sz40' {S : ByteArray} {n : Int} (h : S = tx (itoa n)) (h0 : 0 ≤ n) (h1 : n ≤ 100000) : S.size ≤ 40 :=
  sz_of h (by have := itoa_len (n := n) (by omega) (by omega); omega)
theorem iPadE2 (n : Int) (S : ByteArray) (w : World) (h0 : 0 ≤ n) (h1 : n ≤ 100000) (hT : TabIn w) (e : S = tx (pd 2 (itoa n))) :
    Calls Tryd.prog 34 #[.int .i64 n, .int .i64 2] w fun e w' => e = .returned (.string S) ∧ Below w.heap.size w w' := by subst e; exact iPad2 n w (by omega) (by omega) hT
theorem iPadE3 (n : Int) (S : ByteArray) (w : World) (h0 : 0 ≤ n) (h1 : n ≤ 100000) (hT : TabIn w) (e : S = tx (pd 3 (itoa n))) :
    Calls Tryd.prog 34 #[.int .i64 n, .int .i64 3] w fun e w' => e = .returned (.string S) ∧ Below w.heap.size w w' := by subst e; exact iPad3 n w (by omega) (by omega) hT
theorem iPadE4 (n : Int) (S : ByteArray) (w : World) (h0 : 2000 ≤ n) (h1 : n ≤ 100000) (hT : TabIn w) (e : S = tx (itoa n)) :
    Calls Tryd.prog 34 #[.int .i64 n, .int .i64 4] w fun e w' => e = .returned (.string S) ∧ Below w.heap.size w w' := by subst e; have := iPad4 n w (by omega) (by omega) hT; rwa [pd4_year h0] at this
theorem iDateE (D y m d : Int) (w : World) (h : dY D = y ∧ dM D = m ∧ dD D = d ∧ dC D = 0) :
    Calls Tryd.prog 7 #[.int .i64 D] w fun e w' => e = .returned (.tuple #[.int .i64 y, .int .i64 m, .int .i64 d, .int .i64 0]) ∧ w = w' := by
  obtain ⟨rfl, rfl, rfl, h4⟩ := h
  have := iDateOf D w
  rw [h4] at this
  exact this
set_option maxRecDepth 100000 in
set_option maxHeartbeats 4000000 in
theorem iMomentText (d m : Int) (w : World) (hT : TabIn w) :
    Calls Tryd.prog 12 #[.agg #[.int .i64 d, .int .i64 m]] w fun e w' => e = .returned (.string (tx (moT d m))) ∧ Below w.heap.size w w' := by
  cases h : okM d m
  · rw [moT_no h]
    go_enter Tryd.func12, Tryd.ntmps12
    go_wp2_with (go_at_call 33; (with_reducible refine (iValidMoment _ _ _).mono ?_); rintro e w' ⟨rfl, hb⟩; have hs := hb.size; (try simp at hs); (try have hz : w.heap.size < w'.heap.size := by omega); (try have hy : w.heap.size < w'.heap.size + 1 := by omega); (try have hyy : w.heap.size < w'.heap.size + 1 + 1 := by omega); (try have hz1 : w.heap.size + 1 < w'.heap.size := by omega); (try have hn : ¬ w'.heap.size = w.heap.size := by omega); (try have hn1 : ¬ w'.heap.size = w.heap.size + 1 := by omega); (try have hz2 : w.heap.size + 1 + 1 < w'.heap.size := by omega); (try have hq := Nat.lt_of_lt_of_le (by assumption) hs); (try have hq := Nat.lt_of_succ_le hs); obtain ⟨hc, hf⟩ := bcell hb; (try simp only [World.size_drew, World.cell?_drew, World.frozen?_drew, World.heap_drewN, World.cell?_drewN, World.frozen?_drewN] at hc hf))
    go_ret
    exact ⟨rfl, by (repeat (first | exact Below.refl _ _ | assumption | (refine Below.drewN ?_ _) | (refine Below.drew ?_) | (refine Below.alloc ?_ (by first | (simp; done) | (simp; omega) | omega) _) | (refine Below.setCell ?_ (by first | (simp; done) | (simp; omega) | omega) _) | (refine Below.trans ?_ (Below.mono (by assumption) (by first | (simp; done) | (simp; omega) | omega)))))⟩
  rw [moT_yes h]
  have HD0 : Hid (inB d 0 99999 = true) := by unfold okM at h; rw [Bool.and_eq_true] at h; exact h.1
  obtain ⟨y, mo, da, hdate, hd1, hd2, hd3, hd4⟩ := date_of HD0.out
  obtain ⟨y1, mo1, mo2, da1, da2, -⟩ := id hdate
  have y2 := hdate.year (inB_t HD0.out).2
  have dm := mlen_bd y mo
  have HDE := Lib.hid (And.intro hd1 (And.intro hd2 (And.intro hd3 hd4)))
  rw [hd1, hd2, hd3]
  have da3 : da ≤ 31 := by omega
  clear hd1 hd2 hd3 hd4 hdate da2 dm
  obtain ⟨-, m0, m1⟩ := okM_t h
  unfold moL
  obtain ⟨hh, hhe⟩ : ∃ x, m / 3600000 = x := ⟨_, rfl⟩
  obtain ⟨mi, mie⟩ : ∃ x, m / 60000 % 60 = x := ⟨_, rfl⟩
  obtain ⟨ss, sse⟩ : ∃ x, m / 1000 % 60 = x := ⟨_, rfl⟩
  obtain ⟨ff, ffe⟩ : ∃ x, m % 1000 = x := ⟨_, rfl⟩
  obtain ⟨q1, q1e⟩ : ∃ x, m / 60000 = x := ⟨_, rfl⟩
  obtain ⟨q2, q2e⟩ : ∃ x, m / 1000 = x := ⟨_, rfl⟩
  rw [hhe, mie, sse, ffe]
  have b1 : 0 ≤ hh := by omega
  have b2 : hh ≤ 23 := by omega
  have b3 : 0 ≤ mi := by omega
  have b4 : mi ≤ 59 := by omega
  have b5 : 0 ≤ ss := by omega
  have b6 : ss ≤ 59 := by omega
  have b7 : 0 ≤ ff := by omega
  have b8 : ff ≤ 999 := by omega
  have t1 : m.tdiv 3600000 = hh := by rw [tdiv_nonneg _ m0]; exact hhe
  have t2 : m.tdiv 60000 = q1 := by rw [tdiv_nonneg _ m0]; exact q1e
  have t3 : q1.tmod 60 = mi := by rw [tmod_nonneg _ (by omega)]; omega
  have t4 : m.tdiv 1000 = q2 := by rw [tdiv_nonneg _ m0]; exact q2e
  have t5 : q2.tmod 60 = ss := by rw [tmod_nonneg _ (by omega)]; omega
  have t6 : m.tmod 1000 = ff := by rw [tmod_nonneg _ m0]; exact ffe
  have t7 : q2.tdiv 3600 = hh := by rw [tdiv_nonneg _ (by omega)]; omega
  have t8 : q2.tdiv 60 = q1 := by rw [tdiv_nonneg _ (by omega)]; omega
  have c1 : 0 ≤ q1 := by omega
  have c2 : q1 ≤ 1439 := by omega
  have c3 : 0 ≤ q2 := by omega
  have c4 : q2 ≤ 86399 := by omega
  clear hhe mie sse ffe q1e q2e
  have x1 : IntKind.i64.wrap hh = hh := IntWalk.i64_in _ (by omega)
  have x2 : IntKind.i64.wrap mi = mi := IntWalk.i64_in _ (by omega)
  have x3 : IntKind.i64.wrap ss = ss := IntWalk.i64_in _ (by omega)
  have x4 : IntKind.i64.wrap ff = ff := IntWalk.i64_in _ (by omega)
  have x5 : IntKind.i64.wrap q1 = q1 := IntWalk.i64_in _ (by omega)
  have x6 : IntKind.i64.wrap q2 = q2 := IntWalk.i64_in _ (by omega)
  obtain ⟨Y, e1⟩ : ∃ S, S = tx (itoa y) := ⟨_, rfl⟩
  obtain ⟨MO, e2⟩ : ∃ S, S = tx (pd 2 (itoa mo)) := ⟨_, rfl⟩
  obtain ⟨DA, e3⟩ : ∃ S, S = tx (pd 2 (itoa da)) := ⟨_, rfl⟩
  obtain ⟨HH, e4⟩ : ∃ S, S = tx (pd 2 (itoa hh)) := ⟨_, rfl⟩
  obtain ⟨MI, e5⟩ : ∃ S, S = tx (pd 2 (itoa mi)) := ⟨_, rfl⟩
  obtain ⟨SS, e6⟩ : ∃ S, S = tx (pd 2 (itoa ss)) := ⟨_, rfl⟩
  obtain ⟨FF, e7⟩ : ∃ S, S = tx (pd 3 (itoa ff)) := ⟨_, rfl⟩
  have z1 := sz40' e1 (by omega) (by omega)
  have z2 := sz40 e2 (by omega) (by omega) (by omega)
  have z3 := sz40 e3 (by omega) (by omega) (by omega)
  have z4 := sz40 e4 (by omega) (by omega) (by omega)
  have z5 := sz40 e5 (by omega) (by omega) (by omega)
  have z6 := sz40 e6 (by omega) (by omega) (by omega)
  have z7 := sz40 e7 (by omega) (by omega) (by omega)
  have E1 := Lib.hid e1
  have E2 := Lib.hid e2
  have E3 := Lib.hid e3
  have E4 := Lib.hid e4
  have E5 := Lib.hid e5
  have E6 := Lib.hid e6
  have E7 := Lib.hid e7
  clear e1 e2 e3 e4 e5 e6 e7
  have n1 : ¬ 9223372036854775807 < HH.size + 1 := by omega
  have n2 : ¬ 9223372036854775807 < HH.size + 1 + MI.size := by omega
  have n3 : ¬ 9223372036854775807 < HH.size + 1 + MI.size + 1 := by omega
  have n4 : ¬ 9223372036854775807 < Y.size + 1 + MO.size + 1 + DA.size + 1 + (HH.size + 1 + MI.size + 1) := by omega
  have n5 : ¬ 9223372036854775807 < Y.size + 1 + MO.size + 1 + DA.size + 1 + (HH.size + 1 + MI.size + 1) + SS.size := by omega
  have n6 : ¬ 9223372036854775807 < Y.size + 1 + MO.size + 1 + DA.size + 1 + (HH.size + 1 + MI.size + 1) + SS.size + 1 := by omega
  have n7 : ¬ 9223372036854775807 < Y.size + 1 + MO.size + 1 + DA.size + 1 + (HH.size + 1 + MI.size + 1) + SS.size + 1 + FF.size := by omega
  have HT := Lib.hid hT
  clear hT
  go_enter Tryd.func12, Tryd.ntmps12
  go_wp2_with fail
  (with_reducible refine (iValidMoment _ _ _).mono ?_)
  rintro e W1 ⟨rfl, hb1⟩
  have hs1 := hb1.size
  (try simp at hs1)
  obtain ⟨hc1, hf1⟩ := bcell hb1
  (try have hz0_1 : w.heap.size < W1.heap.size := by omega)
  (try have hy0_1 : w.heap.size + 1 < W1.heap.size := by omega)
  go_wp2_with fail
  (with_reducible refine (iDateE _ _ _ _ _ HDE.out).mono ?_)
  rintro e w' ⟨rfl, rfl⟩
  go_wp2_with fail
  (with_reducible refine (iPadE4 _ _ _ (by omega) (by omega) (HT.out.below (by (repeat (first | exact Below.refl _ _ | assumption | (refine Below.drewN ?_ _) | (refine Below.drew ?_) | (refine Below.alloc ?_ (by first | (simp; done) | (simp; omega) | omega) _) | (refine Below.setCell ?_ (by first | (simp; done) | (simp; omega) | omega) _) | (refine Below.trans ?_ (Below.mono (by assumption) (by first | (simp; done) | (simp; omega) | omega))))))) E1.out).mono ?_)
  rintro e W2 ⟨rfl, hb2⟩
  have hs2 := hb2.size
  (try simp at hs2)
  obtain ⟨hc2, hf2⟩ := bcell hb2
  (try have hz0_2 : w.heap.size < W2.heap.size := by omega)
  (try have hy0_2 : w.heap.size + 1 < W2.heap.size := by omega)
  (try have hz1_2 : W1.heap.size < W2.heap.size := by omega)
  (try have hy1_2 : W1.heap.size + 1 < W2.heap.size := by omega)
  go_wp2_with fail
  (with_reducible refine (iPadE2 _ _ _ (by omega) (by omega) (HT.out.below (by (repeat (first | exact Below.refl _ _ | assumption | (refine Below.drewN ?_ _) | (refine Below.drew ?_) | (refine Below.alloc ?_ (by first | (simp; done) | (simp; omega) | omega) _) | (refine Below.setCell ?_ (by first | (simp; done) | (simp; omega) | omega) _) | (refine Below.trans ?_ (Below.mono (by assumption) (by first | (simp; done) | (simp; omega) | omega))))))) E2.out).mono ?_)
  rintro e W3 ⟨rfl, hb3⟩
  have hs3 := hb3.size
  (try simp at hs3)
  obtain ⟨hc3, hf3⟩ := bcell hb3
  (try have hz0_3 : w.heap.size < W3.heap.size := by omega)
  (try have hy0_3 : w.heap.size + 1 < W3.heap.size := by omega)
  (try have hz1_3 : W1.heap.size < W3.heap.size := by omega)
  (try have hy1_3 : W1.heap.size + 1 < W3.heap.size := by omega)
  (try have hz2_3 : W2.heap.size < W3.heap.size := by omega)
  (try have hy2_3 : W2.heap.size + 1 < W3.heap.size := by omega)
  go_wp2_with fail
  (with_reducible refine (iPadE2 _ _ _ (by omega) (by omega) (HT.out.below (by (repeat (first | exact Below.refl _ _ | assumption | (refine Below.drewN ?_ _) | (refine Below.drew ?_) | (refine Below.alloc ?_ (by first | (simp; done) | (simp; omega) | omega) _) | (refine Below.setCell ?_ (by first | (simp; done) | (simp; omega) | omega) _) | (refine Below.trans ?_ (Below.mono (by assumption) (by first | (simp; done) | (simp; omega) | omega))))))) E3.out).mono ?_)
  rintro e W4 ⟨rfl, hb4⟩
  have hs4 := hb4.size
  (try simp at hs4)
  obtain ⟨hc4, hf4⟩ := bcell hb4
  (try have hz0_4 : w.heap.size < W4.heap.size := by omega)
  (try have hy0_4 : w.heap.size + 1 < W4.heap.size := by omega)
  (try have hz1_4 : W1.heap.size < W4.heap.size := by omega)
  (try have hy1_4 : W1.heap.size + 1 < W4.heap.size := by omega)
  (try have hz2_4 : W2.heap.size < W4.heap.size := by omega)
  (try have hy2_4 : W2.heap.size + 1 < W4.heap.size := by omega)
  (try have hz3_4 : W3.heap.size < W4.heap.size := by omega)
  (try have hy3_4 : W3.heap.size + 1 < W4.heap.size := by omega)
  have HB4 := Lib.hid (show Below w.heap.size w W4 by (repeat (first | exact Below.refl _ _ | assumption | (refine Below.drewN ?_ _) | (refine Below.drew ?_) | (refine Below.alloc ?_ (by first | (simp; done) | (simp; omega) | omega) _) | (refine Below.setCell ?_ (by first | (simp; done) | (simp; omega) | omega) _) | (refine Below.trans ?_ (Below.mono (by assumption) (by first | (simp; done) | (simp; omega) | omega))))))
  have HS4 := Lib.hid HB4.out.size
  have k0 : W4.cell? ⟨w.heap.size, 0, none⟩ = some (.int .i64 d) := by simp [*, World.cell?_alloc_new]
  have k1 : W4.cell? ⟨w.heap.size, 1, none⟩ = some (.int .i64 m) := by simp [*, World.cell?_alloc_new]
  have hlt4 : w.heap.size < W4.heap.size := cell_ltM k0
  clear hc1 hf1 hc2 hf2 hc3 hf3 hc4 hf4 hb1 hb2 hb3 hb4 hs1 hs2 hs3 hs4
  go_wp2_with fail
  go_region_held3 (fun w' => w'.cell? ⟨w.heap.size, 0, none⟩ = some (.int .i64 d) ∧ w'.cell? ⟨w.heap.size, 1, none⟩ = some (.int .i64 m)) (simp [*, World.cell?_alloc_some, World.cell?_setCell_far, World.cell?_alloc_past, nn_e2, nn_e3, nn_e4, nn_f2, nn_f3, nn_f4, nn_l2, nn_l3, nn_l4, nn_m3, nn_m4, nn_k4]) (first | (go_at_call 34; (with_reducible refine (iPadE2 _ _ _ (by omega) (by omega) (HT.out.below (by first | exact HB4.out.drew | exact HB4.out.drew.trans (Below.mono (B := W4.drew.heap.size) (by assumption) (by rw [World.size_drew]; exact HS4.out)))) (by first | exact E4.out | exact E5.out)).mono ?_); rintro e w' ⟨rfl, hb⟩; have hs := hb.size; (try simp at hs); (try have hz : w.heap.size < w'.heap.size := by omega); (try have hy : w.heap.size < w'.heap.size + 1 := by omega); (try have hyy : w.heap.size < w'.heap.size + 1 + 1 := by omega); (try have hz1 : w.heap.size + 1 < w'.heap.size := by omega); (try have hn : ¬ w'.heap.size = w.heap.size := by omega); (try have hn1 : ¬ w'.heap.size = w.heap.size + 1 := by omega); (try have hz2 : w.heap.size + 1 + 1 < w'.heap.size := by omega); (try have hq := Nat.lt_of_lt_of_le (by assumption) hs); (try have hq := Nat.lt_of_succ_le hs); obtain ⟨hc, hf⟩ := bcell hb; (try simp only [World.size_drew, World.cell?_drew, World.frozen?_drew, World.heap_drewN, World.cell?_drewN, World.frozen?_drewN] at hc hf)))
  have HB5 := Lib.hid (show Below w.heap.size w w' by (repeat (first | exact Below.refl _ _ | assumption | (refine Below.drewN ?_ _) | (refine Below.drew ?_) | (refine Below.alloc ?_ (by first | (simp; done) | (simp; omega) | omega) _) | (refine Below.setCell ?_ (by first | (simp; done) | (simp; omega) | omega) _) | (refine Below.trans ?_ (Below.mono (by assumption) (by first | (simp; done) | (simp; omega) | omega))))))
  obtain ⟨j0, j1⟩ : w'.cell? ⟨w.heap.size, 0, none⟩ = some (.int .i64 d) ∧ w'.cell? ⟨w.heap.size, 1, none⟩ = some (.int .i64 m) := by assumption
  have hlt5 : w.heap.size < w'.heap.size := cell_ltM j0
  rename World => W5
  clear hb hs hz hy hyy hn hq hc hf
  have HS5 := Lib.hid HB5.out.size
  go_wp2_with fail
  go_region_held3 (fun w' => w'.cell? ⟨w.heap.size, 0, none⟩ = some (.int .i64 d) ∧ w'.cell? ⟨w.heap.size, 1, none⟩ = some (.int .i64 m)) (simp [*, World.cell?_alloc_some, World.cell?_setCell_far, World.cell?_alloc_past, nn_e2, nn_e3, nn_e4, nn_f2, nn_f3, nn_f4, nn_l2, nn_l3, nn_l4, nn_m3, nn_m4, nn_k4]) (first | (go_at_call 34; (with_reducible refine (iPadE2 _ _ _ (by omega) (by omega) (HT.out.below (by first | exact HB5.out.drew | exact HB5.out.drew.trans (Below.mono (B := W5.drew.heap.size) (by assumption) (by rw [World.size_drew]; exact HS5.out)))) E6.out).mono ?_); rintro e w' ⟨rfl, hb⟩; have hs := hb.size; (try simp at hs); (try have hz : w.heap.size < w'.heap.size := by omega); (try have hy : w.heap.size < w'.heap.size + 1 := by omega); (try have hyy : w.heap.size < w'.heap.size + 1 + 1 := by omega); (try have hz1 : w.heap.size + 1 < w'.heap.size := by omega); (try have hn : ¬ w'.heap.size = w.heap.size := by omega); (try have hn1 : ¬ w'.heap.size = w.heap.size + 1 := by omega); (try have hz2 : w.heap.size + 1 + 1 < w'.heap.size := by omega); (try have hq := Nat.lt_of_lt_of_le (by assumption) hs); (try have hq := Nat.lt_of_succ_le hs); obtain ⟨hc, hf⟩ := bcell hb; (try simp only [World.size_drew, World.cell?_drew, World.frozen?_drew, World.heap_drewN, World.cell?_drewN, World.frozen?_drewN] at hc hf)) | (go_at_call 34; (with_reducible refine (iPadE3 _ _ _ (by omega) (by omega) (HT.out.below (by first | exact HB5.out.drew | exact HB5.out.drew.trans (Below.mono (B := W5.drew.heap.size) (by assumption) (by rw [World.size_drew]; exact HS5.out)))) E7.out).mono ?_); rintro e w' ⟨rfl, hb⟩; have hs := hb.size; (try simp at hs); (try have hz : w.heap.size < w'.heap.size := by omega); (try have hy : w.heap.size < w'.heap.size + 1 := by omega); (try have hyy : w.heap.size < w'.heap.size + 1 + 1 := by omega); (try have hz1 : w.heap.size + 1 < w'.heap.size := by omega); (try have hn : ¬ w'.heap.size = w.heap.size := by omega); (try have hn1 : ¬ w'.heap.size = w.heap.size + 1 := by omega); (try have hz2 : w.heap.size + 1 + 1 < w'.heap.size := by omega); (try have hq := Nat.lt_of_lt_of_le (by assumption) hs); (try have hq := Nat.lt_of_succ_le hs); obtain ⟨hc, hf⟩ := bcell hb; (try simp only [World.size_drew, World.cell?_drew, World.frozen?_drew, World.heap_drewN, World.cell?_drewN, World.frozen?_drewN] at hc hf)))
  go_wp2
  go_ret
  exact ⟨ret_s (by rw [E1.out, E2.out, E3.out, E4.out, E5.out, E6.out, E7.out]; show ((tx (itoa y) ++ tx [45] ++ _ ++ tx [45] ++ _ ++ tx [32] ++ (_ ++ tx [58] ++ _ ++ tx [58])) ++ _ ++ tx [46]) ++ _ = _; simp only [tx_cat, List.append_assoc]), by (repeat (first | exact Below.refl _ _ | assumption | (refine Below.drewN ?_ _) | (refine Below.drew ?_) | (refine Below.alloc ?_ (by first | (simp; done) | (simp; omega) | omega) _) | (refine Below.setCell ?_ (by first | (simp; done) | (simp; omega) | omega) _) | (refine Below.trans ?_ (Below.mono (by assumption) (by first | (simp; done) | (simp; omega) | omega)))))⟩
end Go.Proofs.YtmkmhljiajgibaaDoor
