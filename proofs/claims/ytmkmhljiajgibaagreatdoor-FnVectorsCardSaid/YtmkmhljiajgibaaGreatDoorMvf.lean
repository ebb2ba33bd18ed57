/-
  The law on vectors: what it compares, as plain integers. No program in sight.
-/
import Derived.Test.YtmkmhljiajgibaaGreatDoorMve
import Derived.Test.YtmkmhljiajgibaaGreatDoorMbs
import Derived.Test.YtmkmhljiajgibaaGreatDoorSep
import Derived.Test.YtmkmhljiajgibaaGreatDoorVt
import Derived.Test.YtmkmhljiajgibaaGreatDoorRv
namespace Go.Proofs.YtmkmhljiajgibaaGreatDoor
set_option linter.unusedVariables false
set_option linter.unusedSimpArgs false
open Go.Lib (decDigits itoa)

theorem ve_len {x y z : Int} (h : okV x y z = true) : leA x y z = lenF x y z ∧ leC x y z = 0 := by unfold leA leC; rw [h]; exact ⟨rfl, rfl⟩
theorem ve_root (x y z : Int) : IsRoot (x * x + y * y + z * z) (lenF x y z) := rootF_spec (by have := sq_nn x; have := sq_nn y; have := sq_nn z; omega)
theorem sinQ_1000 : sinQ 1000 = 17452 := by decide
/-- The latitude comes back. -/
theorem lat_near {b r : Int} {m : Nat} (hm : m ≤ 89000) (hb : b = m ∨ b = -m) (r1 : -42 ≤ r - cosI b) (r2 : r - cosI b ≤ 2) :
    0 < r ∧ r ≤ 1000002 ∧ (-20 ≤ (if 90000 < arcF (sinI b) r then arcF (sinI b) r - 360000 else arcF (sinI b) r) - b) ∧ (if 90000 < arcF (sinI b) r then arcF (sinI b) r - 360000 else arcF (sinI b) r) - b ≤ 20 := by
  have hc : cosI b = sinQ (90000 - m) := by
    rcases hb with h | h
    · rw [h]; exact cosI_q (by omega)
    · rw [h, cosI_neg]; exact cosI_q (by omega)
  have C1 := sinQ_mono (show 1000 ≤ 90000 - m by omega) (by omega)
  rw [sinQ_1000] at C1
  obtain ⟨-, C2⟩ := sinQ_bd (90000 - m) (by omega)
  obtain ⟨S1, S2⟩ := sinQ_bd m (by omega)
  rw [hc] at r1 r2
  have hr : ab r = r := by unfold ab; rw [if_neg (by omega)]
  have hab : ab (sinI b) = sinQ m := by
    rcases hb with h | h
    · rw [h, sinI_q (by omega)]; exact (ab_q (by omega)).1
    · rw [h, sinI_neg, sinI_q (by omega)]; exact (ab_q (by omega)).2
  have key := arcB_of (y := sinI b) (x := r) (T := 1000000) (Ey := 0) (Ex := 42000000) (p := m) (by omega) (by omega) (by rw [hab]; omega) (by rw [hab]; omega) (by rw [hr]; omega) (by rw [hr]; omega) (by omega)
  have kb := arcB_bd (sinI b) r
  refine ⟨by omega, by omega, ?_⟩
  rcases hb with h | h
  · have hs : sinI b = sinQ m := by rw [h]; exact sinI_q (by omega)
    rw [arcF_1 (show 0 ≤ r by omega) (show 0 ≤ sinI b by omega)]
    generalize arcB (sinI b) r = A at *
    rw [if_neg (by omega)]
    omega
  · have hs : sinI b = -sinQ m := by rw [h, sinI_neg, sinI_q (by omega)]
    rw [arcF_4 (show 0 ≤ r by omega) (show sinI b ≤ 0 by omega) (.inl (by omega))]
    generalize arcB (sinI b) r = A at *
    by_cases g : A = 0
    · subst g
      rw [if_neg (by decide)]
      omega
    · rw [if_pos (by omega)]
      omega
theorem near_bd {P a : Int} (h : Near P a) (h1 : -1000000000000 ≤ a) (h2 : a ≤ 1000000000000) : -1000000 ≤ P ∧ P ≤ 1000000 := by unfold Near at h; omega
theorem btw_near {A L d : Int} (d1 : -20 ≤ d) (d2 : d ≤ 20) (h : (A - L - d) % 360000 = 0) : btw A L ≤ 20 := by unfold btw; omega
/-- A direction's angles come back, and its length is near one. -/
theorem dir_back {L b : Int} (b1 : -89000 ≤ b) (b2 : b ≤ 89000) : ∃ X Y Z A B N : Int,
    doX L b = X ∧ doY L b = Y ∧ doZ L b = Z ∧ doC b = 0 ∧ agX X Y Z = A ∧ agY X Y Z = B ∧ agC X Y Z = 0 ∧ leA X Y Z = N ∧ leC X Y Z = 0 ∧ (0 ≤ A ∧ A < 360000) ∧ btw A L ≤ 20 ∧ (-20 ≤ B - b ∧ B - b ≤ 20) ∧ (-200 ≤ N - 1000000 ∧ N - 1000000 ≤ 200) := by
  have hin : inB b (-90000) 90000 = true := inB_mk ⟨by omega, by omega⟩
  have hX : doX L b = diX L b := by unfold doX; rw [hin]; rfl
  have hY : doY L b = diY L b := by unfold doY; rw [hin]; rfl
  have hZ : doZ L b = sinI b := by unfold doZ diZ; rw [hin]; exact if_pos rfl
  have hC : doC b = 0 := by unfold doC; rw [hin]; rfl
  obtain ⟨m, hm, hb⟩ : ∃ m : Nat, m ≤ 89000 ∧ (b = m ∨ b = -m) := ⟨b.natAbs, by omega, by omega⟩
  have hc : cosI b = sinQ (90000 - m) := by
    rcases hb with h | h
    · rw [h]; exact cosI_q (by omega)
    · rw [h, cosI_neg]; exact cosI_q (by omega)
  have C1 := sinQ_mono (show 1000 ≤ 90000 - m by omega) (by omega)
  rw [sinQ_1000, ← hc] at C1
  obtain ⟨-, C2⟩ := cosI_bd b
  obtain ⟨c1, c2⟩ := cosI_bd L
  obtain ⟨s1, s2⟩ := sinI_bd L
  obtain ⟨z1, z2⟩ := sinI_bd b
  obtain ⟨q1, q2⟩ := sq_sum L
  obtain ⟨w1, w2⟩ := sq_sum b
  have m1 := mul_ok1 (a := cosI b) (b := cosI L) (by omega) C2 c1 c2
  have m2 := mul_ok1 (a := cosI b) (b := sinI L) (by omega) C2 s1 s2
  have nX : Near (diX L b) (cosI b * cosI L) := near_div _
  have nY : Near (diY L b) (cosI b * sinI L) := near_div _
  obtain ⟨x1, x2⟩ := near_bd nX m1.1 m1.2
  obtain ⟨y1, y2⟩ := near_bd nY m2.1 m2.2
  obtain ⟨p1, p2⟩ := plane (by omega) C2 c1 c2 s1 s2 q1 q2 nX nY
  have CC : 17452 * cosI b ≤ cosI b * cosI b := Int.mul_le_mul_of_nonneg_right C1 (by omega)
  have hnz : diX L b ≠ 0 ∨ diY L b ≠ 0 := by
    by_cases g : diX L b = 0
    · right
      intro g2
      rw [g, g2] at p1
      omega
    · exact .inl g
  have hrs := rootF_spec (n := diX L b * diX L b + diY L b * diY L b) (by omega)
  obtain ⟨r1, r2⟩ := root_near (by omega) p1 p2 hrs
  obtain ⟨rp, rq, l1, l2⟩ := lat_near hm hb r1 r2
  obtain ⟨d, d1, d2, d3⟩ := lon_near (L := L) (C := cosI b) (by omega) C2 hnz
  have hok : okV (diX L b) (diY L b) (sinI b) = true := okV_mk (by omega)
  obtain ⟨e1, e2, e3⟩ := ag_yes hok (by omega)
  obtain ⟨f1, f2⟩ := ve_len hok
  have aL := (at_arc (y := diY L b) (x := diX L b) (by omega) (by omega) (by omega) (by omega) hnz).1
  have aB := (at_arc (y := sinI b) (x := rootF (diX L b * diX L b + diY L b * diY L b)) (by omega) (by omega) (by omega) (by omega) (.inl (by omega))).1
  refine ⟨diX L b, diY L b, sinI b, _, _, _, hX, hY, hZ, hC, e1, e2, e3, f1, f2, at_bd _ _, ?_, ?_, ?_⟩
  · rw [aL]
    exact btw_near d1 d2 d3
  · unfold anLat
    rw [aB]
    exact ⟨l1, l2⟩
  · obtain ⟨k0, k1, k2⟩ := ve_root (diX L b) (diY L b) (sinI b)
    generalize lenF (diX L b) (diY L b) (sinI b) = N at *
    clear aL aB d3 l1 l2 m1 m2 nX nY q1 q2 hrs
    constructor
    · by_cases g : -200 ≤ N - 1000000
      · exact g
      · exfalso
        have := sq_le (a := N + 1) (b := 999800) (by omega) (by omega)
        omega
    · by_cases g : N - 1000000 ≤ 200
      · exact g
      · exfalso
        have := sq_le (a := 1000201) (b := N) (by omega) (by omega)
        omega
/-- Symmetry. -/
theorem divR_minus (a : Int) : divR (-a) 1000000 = -divR a 1000000 := by
  rcases Int.lt_trichotomy a 0 with h | h | h
  · rw [divR_neg h (by omega), divR_nonneg (show 0 ≤ -a by omega) (by omega)]; omega
  · subst h; decide
  · rw [divR_neg (show -a < 0 by omega) (by omega), divR_nonneg (show 0 ≤ a by omega) (by omega), Int.neg_neg]
theorem dot_sym (a b c x y z : Int) : dotV a b c x y z = dotV x y z a b c := by
  unfold dotV
  rw [Int.mul_comm a x, Int.mul_comm b y, Int.mul_comm c z]
theorem cr_sym (a b c x y z : Int) : crX x y z a b c = -crX a b c x y z ∧ crY x y z a b c = -crY a b c x y z ∧ crZ x y z a b c = -crZ a b c x y z := by
  unfold crX crY crZ
  refine ⟨?_, ?_, ?_⟩
  · rw [← divR_minus]; congr 1; rw [Int.mul_comm y c, Int.mul_comm z b]; omega
  · rw [← divR_minus]; congr 1; rw [Int.mul_comm z a, Int.mul_comm x c]; omega
  · rw [← divR_minus]; congr 1; rw [Int.mul_comm x b, Int.mul_comm y a]; omega
theorem spL_sym (a b c x y z : Int) : spL x y z a b c = spL a b c x y z := by
  obtain ⟨h1, h2, h3⟩ := cr_sym a b c x y z
  unfold spL lenF
  rw [h1, h2, h3, Int.neg_mul_neg, Int.neg_mul_neg, Int.neg_mul_neg]
theorem se_sym (a b c x y z : Int) : seA x y z a b c = seA a b c x y z ∧ seC x y z a b c = seC a b c x y z := by
  unfold seA seC
  rw [spL_sym, dot_sym x y z a b c, Bool.and_comm (okV x y z), Bool.or_comm (zeroV x y z)]
  exact ⟨rfl, rfl⟩
theorem dt_sym (a b c x y z : Int) : dtA x y z a b c = dtA a b c x y z ∧ dtC x y z a b c = dtC a b c x y z := by
  unfold dtA dtC
  rw [dot_sym x y z a b c, Bool.and_comm (okV x y z)]
  exact ⟨rfl, rfl⟩
theorem se_bd (a b c x y z : Int) : 0 ≤ seA a b c x y z ∧ seA a b c x y z ≤ 180000 := by
  have hL : 0 ≤ spL a b c x y z := (ve_root _ _ _).1
  unfold seA
  generalize spL a b c x y z = y' at *
  generalize dotV a b c x y z = x' at *
  split
  · split
    · omega
    · unfold atA
      split
      · split
        · omega
        · have hb := arcB_bd y' x'
          by_cases g : 0 ≤ x'
          · rw [arcF_1 g hL]; omega
          · rw [arcF_2 (by omega) hL (.inl (by omega))]; omega
      · omega
  · omega
theorem cr_self (a b c : Int) : crX a b c a b c = 0 ∧ crY a b c a b c = 0 ∧ crZ a b c a b c = 0 := by
  have z : divR 0 1000000 = 0 := by decide
  unfold crX crY crZ
  rw [Int.mul_comm c b, Int.mul_comm c a, Int.mul_comm b a, Int.sub_self, Int.sub_self, Int.sub_self]
  exact ⟨z, z, z⟩
theorem co_self (a b c : Int) : coV (crX a b c a b c) a b c a b c = 0 ∧ coV (crY a b c a b c) a b c a b c = 0 ∧ coV (crZ a b c a b c) a b c a b c = 0 := by
  obtain ⟨h1, h2, h3⟩ := cr_self a b c
  have h0 : coV 0 a b c a b c = 0 := by
    unfold coV chV
    split
    · split <;> rfl
    · rfl
  refine ⟨?_, ?_, ?_⟩
  · rw [h1]; exact h0
  · rw [h2]; exact h0
  · rw [h3]; exact h0
/-- A vector's text leads back. -/
theorem itoa_ne (n : Int) : itoa n ≠ [] := by
  intro e
  by_cases h : n < 0
  · rw [itoa_neg h] at e; cases e
  · have h1 : (itoa n).length = 0 := by rw [e]; rfl
    rw [itoa_pos (by omega), Lib.decDigits_length] at h1
    have := Lib.nDigits_pos n.natAbs
    omega
theorem rd_nil : rdB [] = false := (rd_no (l := []) (fun ⟨n, h⟩ => itoa_ne n h.1)).1
theorem rv_nil : rvB [] = false := by
  apply rv_bad
  unfold rlB
  have e : spl 44 [] = [[]] := rfl
  rw [if_neg (by decide), e]
  have h : okP [] = false := by unfold okP; rw [rd_nil]; rfl
  simp [h]
theorem vt_back (x y z : Int) : (okV x y z = true → rvB (vtT x y z) = true ∧ rvV (vtT x y z) 0 = x ∧ rvV (vtT x y z) 1 = y ∧ rvV (vtT x y z) 2 = z) ∧ (okV x y z = false → rvB (vtT x y z) = false) := by
  constructor
  · intro h
    have e : vtT x y z = ltT [x, y, z] := by rw [vtT_yes h, ltT3 h]
    obtain ⟨h1, h2⟩ := rl_ltT (zs := [x, y, z]) (ltOk_mk (by simp) (fit3 h)) (by simp)
    have hB : rvB (ltT [x, y, z]) = true := rv_mk h1 (by rw [h2]; rfl) (by rw [h2]; exact h)
    rw [e]
    refine ⟨hB, ?_, ?_, ?_⟩
    · rw [rv_yes hB, h2]; rfl
    · rw [rv_yes hB, h2]; rfl
    · rw [rv_yes hB, h2]; rfl
  · intro h
    rw [vtT_no h]
    exact rv_nil
theorem vt_len (x y z : Int) : (tx (vtT x y z)).size ≤ 1048576 := by
  cases h : okV x y z
  · rw [vtT_no h, tx_size]; simp
  · rw [vtT_yes h, ← ltT3 h]
    exact ltT_len
end Go.Proofs.YtmkmhljiajgibaaGreatDoor
