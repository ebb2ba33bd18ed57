/-
  Moments read from texts: plain facts, no walk in sight.
-/
import Derived.Test.YtmkmhljiajgibaaDoorMo
import Derived.Test.YtmkmhljiajgibaaDoorMrd
namespace Go.Proofs.YtmkmhljiajgibaaDoor
set_option linter.unusedVariables false
set_option linter.unusedSimpArgs false
open Go.Lib (decDigits itoa parseUintB)

theorem dig_inj : ∀ (k : Nat) (l r : List UInt8), l.length = k → r.length = k → (∀ c ∈ l, isDg c) → (∀ c ∈ r, isDg c) → dva 0 l = dva 0 r → l = r
  | 0, l, r, h1, h2, _, _, _ => by rw [List.length_eq_zero_iff.1 h1, List.length_eq_zero_iff.1 h2]
  | k + 1, l, r, h1, h2, h3, h4, h5 => by
    rcases snoc_cases l with rfl | ⟨i, c, rfl⟩
    · simp at h1
    rcases snoc_cases r with rfl | ⟨j, d, rfl⟩
    · simp at h2
    rw [dva_snoc, dva_snoc] at h5
    have hc := h3 c (by simp)
    have hd := h4 d (by simp)
    unfold isDg at hc hd
    have e1 : dva 0 i = dva 0 j := by omega
    have e2 : c = d := by apply UInt8.toNat_inj.1; omega
    rw [dig_inj k i j (by simpa using h1) (by simpa using h2) (fun x hx => h3 x (by simp [hx])) (fun x hx => h4 x (by simp [hx])) e1, e2]
theorem dig_rep : isDg 48 := by unfold isDg; decide
theorem dva_rep0 (n : Nat) (l : List UInt8) : dva 0 (List.replicate n 48 ++ l) = dva 0 l := by
  induction n with
  | zero => simp
  | succ n ih => rw [List.replicate_succ, List.cons_append, dva_cons]; exact ih
theorem pdM_dig {k u : Nat} : ∀ c ∈ pd k (decDigits u), isDg c := by
  intro c hc
  unfold pd at hc
  rcases List.mem_append.1 hc with hc | hc
  · rw [List.eq_of_mem_replicate hc]; exact dig_rep
  · exact dd_dig u c hc
theorem pdM_dva (k u : Nat) : dva 0 (pd k (decDigits u)) = u := by unfold pd; rw [dva_rep0, dva_dd]
theorem pdM_len {k u : Nat} (h : u < 10 ^ k) (hk : 1 ≤ k) : (pd k (decDigits u)).length = k := by
  rw [pd_len]; have := dd_len_lt h hk; omega
theorem itoa_nat (u : Nat) : itoa (u : Int) = decDigits u := by rw [itoa_pos (by omega)]; simp
theorem dva_bd {x : List UInt8} (hd : ∀ c ∈ x, isDg c) : dva 0 x < 10 ^ x.length := by
  have := dva_lt x hd 0 1 (by omega)
  omega
theorem pd_of {k : Nat} {x : List UInt8} (h1 : x.length = k) (hk : 1 ≤ k) (hd : ∀ c ∈ x, isDg c) : pd k (itoa (dva 0 x : Nat)) = x := by
  rw [itoa_nat]
  have hb := dva_bd hd
  rw [h1] at hb
  exact dig_inj k _ _ (pdM_len hb hk) h1 pdM_dig hd (pdM_dva _ _)
/-- Where the fields of a moment's text stand. -/
def pS (i : Nat) : Nat := [0, 5, 8, 11, 14, 17, 20].getD i 0
def pW (i : Nat) : Nat := [4, 2, 2, 2, 2, 2, 3].getD i 0
def sub (l : List UInt8) (a k : Nat) : List UInt8 := (l.drop a).take k
def fp (l : List UInt8) (i : Nat) : List UInt8 := sub l (pS i) (pW i)
def fn (l : List UInt8) (i : Nat) : Nat := dva 0 (fp l i)
def Seps (l : List UInt8) : Prop := l.length = 23 ∧ l.getD 4 0 = 45 ∧ l.getD 7 0 = 45 ∧ l.getD 10 0 = 32 ∧ l.getD 13 0 = 58 ∧ l.getD 16 0 = 58 ∧ l.getD 19 0 = 46
def Digs (l : List UInt8) : Prop := ∀ i, i < 7 → ∀ c ∈ fp l i, isDg c
theorem len2 {x : List UInt8} (h : x.length = 2) : ∃ a b, x = [a, b] := by
  match x, h with
  | [a, b], _ => exact ⟨a, b, rfl⟩
theorem len3 {x : List UInt8} (h : x.length = 3) : ∃ a b c, x = [a, b, c] := by
  match x, h with
  | [a, b, c], _ => exact ⟨a, b, c, rfl⟩
theorem len4 {x : List UInt8} (h : x.length = 4) : ∃ a b c d, x = [a, b, c, d] := by
  match x, h with
  | [a, b, c, d], _ => exact ⟨a, b, c, d, rfl⟩
theorem cat23 {A B C D E F G : List UInt8} (h0 : A.length = 4) (h1 : B.length = 2) (h2 : C.length = 2) (h3 : D.length = 2) (h4 : E.length = 2) (h5 : F.length = 2) (h6 : G.length = 3) {l : List UInt8}
    (hl : A ++ [45] ++ B ++ [45] ++ C ++ [32] ++ D ++ [58] ++ E ++ [58] ++ F ++ [46] ++ G = l) :
    Seps l ∧ fp l 0 = A ∧ fp l 1 = B ∧ fp l 2 = C ∧ fp l 3 = D ∧ fp l 4 = E ∧ fp l 5 = F ∧ fp l 6 = G := by
  obtain ⟨_, _, _, _, rfl⟩ := len4 h0
  obtain ⟨_, _, rfl⟩ := len2 h1
  obtain ⟨_, _, rfl⟩ := len2 h2
  obtain ⟨_, _, rfl⟩ := len2 h3
  obtain ⟨_, _, rfl⟩ := len2 h4
  obtain ⟨_, _, rfl⟩ := len2 h5
  obtain ⟨_, _, _, rfl⟩ := len3 h6
  simp only [List.cons_append, List.nil_append, List.append_nil] at hl
  subst hl
  exact ⟨⟨rfl, rfl, rfl, rfl, rfl, rfl, rfl⟩, rfl, rfl, rfl, rfl, rfl, rfl, rfl⟩
theorem cons_of {l : List UInt8} {n : Nat} (h : l.length = n + 1) : ∃ a t, l = a :: t ∧ t.length = n := by
  cases l with
  | nil => simp at h
  | cons a t => exact ⟨a, t, rfl, by simpa using h⟩
theorem len23 {l : List UInt8} (h : l.length = 23) : ∃ a b c d s e f t g i u j k v m n x o p y q r z, l = [a, b, c, d, s, e, f, t, g, i, u, j, k, v, m, n, x, o, p, y, q, r, z] := by
  obtain ⟨x0, t0, rfl, h0⟩ := cons_of h
  obtain ⟨x1, t1, rfl, h1⟩ := cons_of h0
  obtain ⟨x2, t2, rfl, h2⟩ := cons_of h1
  obtain ⟨x3, t3, rfl, h3⟩ := cons_of h2
  obtain ⟨x4, t4, rfl, h4⟩ := cons_of h3
  obtain ⟨x5, t5, rfl, h5⟩ := cons_of h4
  obtain ⟨x6, t6, rfl, h6⟩ := cons_of h5
  obtain ⟨x7, t7, rfl, h7⟩ := cons_of h6
  obtain ⟨x8, t8, rfl, h8⟩ := cons_of h7
  obtain ⟨x9, t9, rfl, h9⟩ := cons_of h8
  obtain ⟨x10, t10, rfl, h10⟩ := cons_of h9
  obtain ⟨x11, t11, rfl, h11⟩ := cons_of h10
  obtain ⟨x12, t12, rfl, h12⟩ := cons_of h11
  obtain ⟨x13, t13, rfl, h13⟩ := cons_of h12
  obtain ⟨x14, t14, rfl, h14⟩ := cons_of h13
  obtain ⟨x15, t15, rfl, h15⟩ := cons_of h14
  obtain ⟨x16, t16, rfl, h16⟩ := cons_of h15
  obtain ⟨x17, t17, rfl, h17⟩ := cons_of h16
  obtain ⟨x18, t18, rfl, h18⟩ := cons_of h17
  obtain ⟨x19, t19, rfl, h19⟩ := cons_of h18
  obtain ⟨x20, t20, rfl, h20⟩ := cons_of h19
  obtain ⟨x21, t21, rfl, h21⟩ := cons_of h20
  obtain ⟨x22, t22, rfl, h22⟩ := cons_of h21
  obtain rfl := List.length_eq_zero_iff.1 h22
  exact ⟨_, _, _, _, _, _, _, _, _, _, _, _, _, _, _, _, _, _, _, _, _, _, _, rfl⟩
theorem cat_of {l : List UInt8} (h : Seps l) : fp l 0 ++ [45] ++ fp l 1 ++ [45] ++ fp l 2 ++ [32] ++ fp l 3 ++ [58] ++ fp l 4 ++ [58] ++ fp l 5 ++ [46] ++ fp l 6 = l := by
  obtain ⟨h0, h1, h2, h3, h4, h5, h6⟩ := h
  obtain ⟨a, b, c, d, s, e, f, t, g, i, u, j, k, v, m, n, x, o, p, y, q, r, z, rfl⟩ := len23 h0
  simp only [List.getD, List.getElem?_cons_succ, List.getElem?_cons_zero, Option.getD_some] at h1 h2 h3 h4 h5 h6
  subst h1 h2 h3 h4 h5 h6
  rfl
theorem fp_len {l : List UInt8} (h : l.length = 23) {i : Nat} (hi : i < 7) : (fp l i).length = pW i := by
  obtain ⟨a, b, c, d, s, e, f, t, g, i', u, j, k, v, m, n, x, o, p, y, q, r, z, rfl⟩ := len23 h
  match i, hi with
  | 0, _ => rfl
  | 1, _ => rfl
  | 2, _ => rfl
  | 3, _ => rfl
  | 4, _ => rfl
  | 5, _ => rfl
  | 6, _ => rfl
theorem pW_bd {i : Nat} (hi : i < 7) : 2 ≤ pW i ∧ pW i ≤ 4 := by
  match i, hi with
  | 0, _ => decide
  | 1, _ => decide
  | 2, _ => decide
  | 3, _ => decide
  | 4, _ => decide
  | 5, _ => decide
  | 6, _ => decide
/-- What a moment's text says. -/
def IsMom (l : List UInt8) (d m : Int) : Prop := okM d m = true ∧ moT d m = l
def milOf (l : List UInt8) : Int := (((fn l 3 : Nat) * 60 + (fn l 4 : Nat)) * 60 + (fn l 5 : Nat)) * 1000 + (fn l 6 : Nat)
theorem fn_bd {l : List UInt8} (h : l.length = 23) (hd : Digs l) {i : Nat} (hi : i < 7) : fn l i < 10 ^ pW i := by
  have := dva_bd (hd i hi)
  rw [fp_len h hi] at this
  exact this
theorem mom_of {l : List UInt8} (hs : Seps l) (hd : Digs l) {D : Int} (hf : IsDate D (fn l 0 : Nat) (fn l 1 : Nat) (fn l 2 : Nat)) (hD : inB D 0 99999 = true) (h3 : fn l 3 ≤ 23) (h4 : fn l 4 ≤ 59) (h5 : fn l 5 ≤ 59) : IsMom l D (milOf l) := by
  have h6 : fn l 6 < 1000 := fn_bd hs.1 hd (by omega)
  have hok : okM D (milOf l) = true := okM_mk ⟨inB_t hD, by unfold milOf; omega, by unfold milOf; omega⟩
  refine ⟨hok, ?_⟩
  obtain ⟨e1, e2, e3, -⟩ := date_eq hD hf
  rw [moT_yes hok, e1, e2, e3]
  unfold moL
  rw [show milOf l / 3600000 = (fn l 3 : Nat) by unfold milOf; omega, show milOf l / 60000 % 60 = (fn l 4 : Nat) by unfold milOf; omega, show milOf l / 1000 % 60 = (fn l 5 : Nat) by unfold milOf; omega, show milOf l % 1000 = (fn l 6 : Nat) by unfold milOf; omega]
  rw [← pd4_year (y := (fn l 0 : Nat)) hf.1]
  have q : ∀ i, i < 7 → pd (pW i) (itoa (fn l i : Nat)) = fp l i := fun i hi => pd_of (fp_len hs.1 hi) (by have := pW_bd hi; omega) (hd i hi)
  have q0 := q 0 (by omega)
  have q1 := q 1 (by omega)
  have q2 := q 2 (by omega)
  have q3 := q 3 (by omega)
  have q4 := q 4 (by omega)
  have q5 := q 5 (by omega)
  have q6 := q 6 (by omega)
  simp only [show pW 0 = 4 from rfl, show pW 1 = 2 from rfl, show pW 2 = 2 from rfl, show pW 3 = 2 from rfl, show pW 4 = 2 from rfl, show pW 5 = 2 from rfl, show pW 6 = 3 from rfl] at q0 q1 q2 q3 q4 q5 q6
  rw [q0, q1, q2, q3, q4, q5, q6]
  exact cat_of hs
theorem pdI {k : Nat} {n : Int} (h0 : 0 ≤ n) (hk : 1 ≤ k) (h1 : n < (10 ^ k : Nat)) : (pd k (itoa n)).length = k ∧ (∀ c ∈ pd k (itoa n), isDg c) ∧ (dva 0 (pd k (itoa n)) : Nat) = n := by
  obtain ⟨u, rfl⟩ := Int.eq_ofNat_of_zero_le h0
  rw [itoa_nat]
  exact ⟨pdM_len (by omega) hk, pdM_dig, by rw [pdM_dva]⟩
theorem mom_inv {l : List UInt8} {d m : Int} (h : IsMom l d m) : Seps l ∧ Digs l ∧ IsDate d (fn l 0 : Nat) (fn l 1 : Nat) (fn l 2 : Nat) ∧ fn l 3 ≤ 23 ∧ fn l 4 ≤ 59 ∧ fn l 5 ≤ 59 ∧ m = milOf l := by
  obtain ⟨hok, ht⟩ := h
  obtain ⟨hd0, m0, m1⟩ := okM_t hok
  obtain ⟨y, mo, da, hdt, e1, e2, e3, -⟩ := date_of (inB_mk hd0)
  rw [moT_yes hok, e1, e2, e3] at ht
  unfold moL at ht
  have hyb := hdt.year hd0.2
  obtain ⟨y1, mo1, mo2, da1, da2, -⟩ := id hdt
  have mb := mlen_bd y mo
  rw [← pd4_year y1] at ht
  obtain ⟨a0, b0, c0⟩ := pdI (k := 4) (n := y) (by omega) (by omega) (by omega)
  obtain ⟨a1, b1, c1⟩ := pdI (k := 2) (n := mo) (by omega) (by omega) (by omega)
  obtain ⟨a2, b2, c2⟩ := pdI (k := 2) (n := da) (by omega) (by omega) (by omega)
  obtain ⟨a3, b3, c3⟩ := pdI (k := 2) (n := m / 3600000) (by omega) (by omega) (by omega)
  obtain ⟨a4, b4, c4⟩ := pdI (k := 2) (n := m / 60000 % 60) (by omega) (by omega) (by omega)
  obtain ⟨a5, b5, c5⟩ := pdI (k := 2) (n := m / 1000 % 60) (by omega) (by omega) (by omega)
  obtain ⟨a6, b6, c6⟩ := pdI (k := 3) (n := m % 1000) (by omega) (by omega) (by omega)
  obtain ⟨hs, f0, f1, f2, f3, f4, f5, f6⟩ := cat23 a0 a1 a2 a3 a4 a5 a6 ht
  have g0 : (fn l 0 : Nat) = y := by unfold fn; rw [f0]; exact c0
  have g1 : (fn l 1 : Nat) = mo := by unfold fn; rw [f1]; exact c1
  have g2 : (fn l 2 : Nat) = da := by unfold fn; rw [f2]; exact c2
  have g3 : (fn l 3 : Nat) = m / 3600000 := by unfold fn; rw [f3]; exact c3
  have g4 : (fn l 4 : Nat) = m / 60000 % 60 := by unfold fn; rw [f4]; exact c4
  have g5 : (fn l 5 : Nat) = m / 1000 % 60 := by unfold fn; rw [f5]; exact c5
  have g6 : (fn l 6 : Nat) = m % 1000 := by unfold fn; rw [f6]; exact c6
  refine ⟨hs, ?_, by rw [g0, g1, g2]; exact hdt, by omega, by omega, by omega, by unfold milOf; rw [g3, g4, g5, g6]; omega⟩
  intro i hi
  match i, hi with
  | 0, _ => rw [f0]; exact b0
  | 1, _ => rw [f1]; exact b1
  | 2, _ => rw [f2]; exact b2
  | 3, _ => rw [f3]; exact b3
  | 4, _ => rw [f4]; exact b4
  | 5, _ => rw [f5]; exact b5
  | 6, _ => rw [f6]; exact b6
theorem date_inj {D D' y m d : Int} (h : IsDate D y m d) (h' : IsDate D' y m d) : D = D' := by
  obtain ⟨-, -, -, -, -, h⟩ := h
  obtain ⟨-, -, -, -, -, h'⟩ := h'
  omega
theorem IsMom.unique {l : List UInt8} {d m d' m' : Int} (h : IsMom l d m) (h' : IsMom l d' m') : d = d' ∧ m = m' := by
  obtain ⟨-, -, a, -, -, -, b⟩ := mom_inv h
  obtain ⟨-, -, a', -, -, -, b'⟩ := mom_inv h'
  exact ⟨date_inj a a', by rw [b, b']⟩
theorem IsMom.parse {l : List UInt8} {d m : Int} (h : IsMom l d m) {i : Nat} (hi : i < 7) : parseUintB 32 (fp l i) = .ok (fn l i) := by
  obtain ⟨hs, hd, -⟩ := mom_inv h
  have hb := fn_bd hs.1 hd hi
  have hw := pW_bd hi
  have h4 : 10 ^ pW i ≤ 10 ^ 4 := Nat.pow_le_pow_right (by omega) hw.2
  refine parseUB_ok (by decide) (fun e => ?_) (hd i hi) (show fn l i ≤ 2 ^ 32 - 1 by omega)
  have := fp_len hs.1 hi
  rw [e] at this
  simp at this
  omega
/-- The reading of a text as a moment. -/
noncomputable def rmB (l : List UInt8) : Bool := @decide (∃ x : Int × Int, IsMom l x.1 x.2) (Classical.propDecidable _)
noncomputable def rmP (l : List UInt8) : Int × Int := @ite _ (∃ x : Int × Int, IsMom l x.1 x.2) (Classical.propDecidable _) (Classical.epsilon fun x => IsMom l x.1 x.2) (0, 0)
theorem rm_yes {l : List UInt8} {d m : Int} (h : IsMom l d m) : rmB l = true ∧ rmP l = (d, m) := by
  have hx : ∃ x : Int × Int, IsMom l x.1 x.2 := ⟨(d, m), h⟩
  refine ⟨@decide_eq_true _ (Classical.propDecidable _) hx, ?_⟩
  unfold rmP
  rw [@if_pos _ (Classical.propDecidable _) hx]
  have := (Classical.epsilon_spec hx).unique h
  exact Prod.ext this.1 this.2
theorem rm_no {l : List UInt8} (h : ¬ ∃ x : Int × Int, IsMom l x.1 x.2) : rmB l = false ∧ rmP l = (0, 0) :=
  ⟨@decide_eq_false _ (Classical.propDecidable _) h, by unfold rmP; rw [@if_neg _ (Classical.propDecidable _) h]⟩
theorem fin_t {y m d : Int} (h : finB y m d = true) : IsDate (finA y m d) y m d ∧ inB (finA y m d) 0 99999 = true := by
  unfold finB at h
  rw [Bool.and_eq_true] at h
  obtain ⟨h1, h2⟩ := h
  have e : finA y m d = dnum y m d := by unfold finA; rw [h1]; rfl
  rw [e]
  refine ⟨?_, h2⟩
  unfold dayB dinB at h1
  rw [Bool.and_eq_true, Bool.and_eq_true] at h1
  obtain ⟨⟨a, b⟩, c⟩ := h1
  have a := inB_t a
  have b := inB_t b
  have c := inB_t c
  exact ⟨a.1, b.1, b.2, c.1, c.2, by unfold dnum; omega⟩
theorem fin_mk {D y m d : Int} (h : IsDate D y m d) (hD : 0 ≤ D ∧ D ≤ 99999) : finB y m d = true ∧ finA y m d = D := by
  have hy := h.year hD.2
  obtain ⟨a, b, c, e, f, g⟩ := h
  have h1 : dayB y m d = true := by
    unfold dayB dinB
    rw [inB_mk ⟨a, hy⟩, inB_mk ⟨b, c⟩, inB_mk ⟨e, f⟩]
    rfl
  have h2 : dnum y m d = D := by unfold dnum; omega
  exact ⟨by unfold finB; rw [h1, h2, inB_mk hD]; rfl, by unfold finA; rw [h1, h2]; rfl⟩
theorem day_fin {y m d : Int} : (finB y m d = true → dayA y m d = finA y m d ∧ dayC y m d = 0) ∧ (finB y m d = false → dayA y m d = 0 ∧ dayC y m d = 2) := by
  unfold finB dayA dayC finA
  constructor
  · intro h
    rw [h]
    rw [Bool.and_eq_true] at h
    rw [h.1]
    exact ⟨rfl, rfl⟩
  · intro h
    rw [h]
    exact ⟨rfl, rfl⟩
end Go.Proofs.YtmkmhljiajgibaaDoor
