/-
  A region that draws its order, all of whose operations but the last read only or call quietly, and whose last one stores: one walk of the text's order, then the store.
  The idea: the same region with an idle last operation is quiet; where the last operation comes up, all others have been carried out.
-/
import Derived.Deep.QuietTactic
import Derived.BigQuiet
namespace Go.Proofs.YtconhjidpoimaaaDoor
set_option linter.unusedVariables false
set_option linter.unusedSimpArgs false
section
variable {P : Program} {md : Region.Mode} {C : World → Prop}

/-- Every edge leads back; the operation n waits for all before it. -/
def backB (ops : Array Oper) : Bool := (List.range ops.size).all fun i => ((ops[i]?).map fun o => o.after.all fun e => decide (e.on < i)).getD true
def sinkAt (md : Region.Mode) (ops : Array Oper) (n : Nat) : Bool := (List.range n).all fun j => ((ops[n]?).map fun o => o.after.any fun e => Region.binds md e && e.on == j).getD false

theorem ready_some {ops : Array Oper} (hb : backB ops = true) {listed : Array Bool} (hsz : listed.size = ops.size) : ∀ (d n : Nat), n < d → n < ops.size → listed.getD n true = false → Region.ready md ops listed ≠ [] := by
  intro d
  induction d with
  | zero => intro n h; omega
  | succ d ih =>
    intro n hnd hn hun
    by_cases hall : ∀ i, i < n → listed.getD i true = true
    · intro h0
      have hmem : n ∈ Region.ready md ops listed := by
        rw [mem_ready]
        refine ⟨hun, ops[n], by simp [hn], fun e he _ => ?_⟩
        have h1 := List.all_eq_true.1 hb n (List.mem_range.2 hn)
        simp [hn] at h1
        have hlt : e.on < n := by
          obtain ⟨i, hi, rfl⟩ := Array.mem_iff_getElem.1 he
          exact h1 i hi
        have h2 := hall e.on hlt
        have hlt2 : e.on < listed.size := by omega
        simp [hlt2] at h2 ⊢
        exact h2
      rw [h0] at hmem; cases hmem
    · obtain ⟨i, hi⟩ := Classical.not_forall.1 hall
      obtain ⟨hi1, hi2⟩ := Classical.not_imp.1 hi
      exact ih i (by omega) (by omega) (by simpa using hi2)

theorem ready_none {ops : Array Oper} {n : Nat} (hn : ops.size = n + 1) (hs : sinkAt md ops n = true) {listed : Array Bool} (hsz : listed.size = ops.size) (hr : n ∈ Region.ready md ops listed) : Region.ready md ops (listed.setIfInBounds n true) = [] := by
  obtain ⟨hun, o, ho, hall⟩ := mem_ready.1 hr
  rw [List.eq_nil_iff_forall_not_mem]
  intro j hj
  obtain ⟨hju, oj, hoj, _⟩ := mem_ready.1 hj
  have hjlt : j < ops.size := (Array.getElem?_eq_some_iff.1 hoj).1
  by_cases hjn : j = n
  · subst hjn
    have : j < listed.size := by omega
    simp [this] at hju
  · have h1 := List.all_eq_true.1 hs j (List.mem_range.2 (by omega))
    rw [ho] at h1
    simp only [Option.map_some, Option.getD_some, Array.any_eq_true] at h1
    obtain ⟨i, hi, h2⟩ := h1
    simp only [Bool.and_eq_true, beq_iff_eq] at h2
    have h3 := hall o.after[i] (Array.getElem_mem hi) h2.1
    rw [h2.2] at h3
    have hjl : j < listed.size := by omega
    have hne : n ≠ j := fun e => hjn e.symm
    simp [hjl, hne] at hju h3
    rw [h3] at hju
    cases hju

/-- Two regions that part in what the operation n does, and in nothing else. -/
structure Twin (ops opsT : Array Oper) (n : Nat) : Prop where
  size : opsT.size = ops.size
  same : ∀ j, j ≠ n → opsT[j]? = ops[j]?
  at' : ∀ o oT, ops[n]? = some o → opsT[n]? = some oT → oT.after = o.after ∧ oT.guard = o.guard ∧ oT.dst = o.dst

theorem Twin.ready {ops opsT : Array Oper} {n : Nat} (t : Twin ops opsT n) (listed : Array Bool) : Region.ready md opsT listed = Region.ready md ops listed := by
  unfold Region.ready
  rw [t.size]
  apply List.filter_congr
  intro i hi
  have hi' := List.mem_range.1 hi
  by_cases h : i = n
  · subst h
    have e1 : ops[i]? = some ops[i] := by simp [hi']
    have hiT : i < opsT.size := by rw [t.size]; exact hi'
    have e2 : opsT[i]? = some opsT[i] := by simp [hiT]
    obtain ⟨ha, _, _⟩ := t.at' _ _ e1 e2
    rw [e1, e2]
    simp only [Option.map_some, Option.getD_some]
    rw [ha]
  · rw [t.same i h]

theorem Twin.yielded {ops opsT : Array Oper} {n : Nat} (t : Twin ops opsT n) (tm : Array Value) : yielded opsT tm = yielded ops tm := by
  funext j
  unfold Go.yielded
  by_cases h : j = n
  · subst h
    by_cases hj : j < ops.size
    · have e1 : ops[j]? = some ops[j] := by simp [hj]
      have hiT : j < opsT.size := by rw [t.size]; exact hj
      have e2 : opsT[j]? = some opsT[j] := by simp [hiT]
      obtain ⟨_, _, hd⟩ := t.at' _ _ e1 e2
      rw [e1, e2]
      simp only [Option.bind_some]
      rw [hd]
    · have e1 : ops[j]? = none := Array.getElem?_eq_none (by omega)
      have e2 : opsT[j]? = none := Array.getElem?_eq_none (by rw [t.size]; omega)
      rw [e1, e2]
  · rw [t.same j h]

theorem any_of_twin {ops opsT : Array Oper} {n : Nat} {ol oT : Oper} {Q : Exit → Act → World → Prop} {Q0 : Act → Prop} (t : Twin ops opsT n) (hn : ops.size = n + 1) (hl : ops[n]? = some ol) (hT : opsT[n]? = some oT)
    (hop : oT.op = .assign (.const undef)) (hg : ol.guard = none) (hd : ol.dst = none)
    (hb : backB ops = true) (hs : sinkAt md ops n = true)
    (hQ : ∀ a w, C w → Q0 a → ol.wp P a w (fun a' w' => Q .normal a' w') Q) :
    ∀ (fuel : Nat) (listed : Array Bool) (a : Act) (w : World), listed.size = ops.size → listed.getD n true = false → C w → wpAnyQ P md opsT C Q0 fuel listed a → wpAny P md ops Q fuel listed a w := by
  intro fuel
  induction fuel with
  | zero =>
    intro listed a w hsz hun hw h
    have := ready_some (md := md) hb hsz (n + 1) n (by omega) (by omega) hun
    rw [← t.ready] at this
    exact absurd h.1 this
  | succ fuel ih =>
    intro listed a w hsz hun hw h
    have hne := ready_some (md := md) hb hsz (n + 1) n (by omega) (by omega) hun
    refine ⟨fun h0 => absurd h0 hne, fun i hi => ?_⟩
    have hi2 := h.2 i (by rw [t.ready]; exact hi)
    by_cases hin : i = n
    · subst hin
      have hnone := ready_none hn hs hsz hi
      unfold qOp at hi2
      rw [hT] at hi2
      obtain ⟨ha, hg2, hd2⟩ := t.at' _ _ hl hT
      have hw1 : ∀ y, Region.wanted oT y = true := fun y => by unfold Region.wanted; rw [hg2, hg]
      have hw2 : ∀ y, Region.wanted ol y = true := fun y => by unfold Region.wanted; rw [hg]
      simp only [hw1, if_true] at hi2
      obtain ⟨v, _, hk⟩ := hi2
      have hput : a.put oT.dst v = a := by rw [hd2, hd]; rfl
      rw [hput] at hk
      have hq0 : Q0 a := by
        cases fuel with
        | zero => exact hk.2
        | succ f => exact hk.1 (by rw [t.ready]; exact hnone)
      unfold wpOp
      rw [hl]
      simp only [hw2, if_true]
      refine Or.inl (Oper.wp_mono (fun a' w' hq => ?_) (hQ a w hw hq0))
      cases fuel with
      | zero => exact ⟨hnone, hq⟩
      | succ f => exact ⟨fun _ => hq, fun j hj => by rw [hnone] at hj; cases hj⟩
    · have hq : qOp P ops C i (wpAnyQ P md opsT C Q0 fuel (listed.setIfInBounds i true)) a := by
        unfold qOp at hi2 ⊢
        rw [t.same i hin, t.yielded] at hi2
        exact hi2
      refine wpOp_of_qOp hw (fun a' w' hw' hk => ih _ a' w' (by simp [hsz]) ?_ hw' hk) hq
      rw [getD_set_ne true hin]
      exact hun
end

theorem wpQuiet_append {P : Program} {ops : Array Oper} {C : World → Prop} {Q : Act → Prop} : ∀ (l r : List Oper) (a : Act), wpQuiet P ops C Q (l ++ r) a = wpQuiet P ops C (wpQuiet P ops C Q r) l a
  | [], _, _ => rfl
  | o :: l, r, a => by
    have ih : wpQuiet P ops C Q (l ++ r) = wpQuiet P ops C (wpQuiet P ops C Q r) l := funext (wpQuiet_append l r)
    show wpQuiet P ops C Q (o :: (l ++ r)) a = _
    unfold wpQuiet
    rw [ih]

theorem wpQuiet_twin {P : Program} {ops opsT : Array Oper} {n : Nat} (t : Twin ops opsT n) {C : World → Prop} {Q : Act → Prop} : ∀ (l : List Oper) (a : Act), wpQuiet P ops C Q l a → wpQuiet P opsT C Q l a
  | [], _, h => h
  | o :: l, a, h => by
    unfold wpQuiet at h ⊢
    rw [t.yielded]
    split
    · rename_i hw
      rw [if_pos hw] at h
      exact Oper.quiet_mono (fun a' => wpQuiet_twin t l a') h
    · rename_i hw
      rw [if_neg hw] at h
      exact wpQuiet_twin t l _ h

theorem wpQuiet_mono2 {P : Program} {ops : Array Oper} {C : World → Prop} {Q Q' : Act → Prop} (hq : ∀ a, Q a → Q' a) : ∀ (l : List Oper) (a : Act), wpQuiet P ops C Q l a → wpQuiet P ops C Q' l a
  | [], a, h => hq a h
  | o :: l, a, h => by
    unfold wpQuiet at h ⊢
    split
    · rename_i hw
      rw [if_pos hw] at h
      exact Oper.quiet_mono (fun a' => wpQuiet_mono2 hq l a') h
    · rename_i hw
      rw [if_neg hw] at h
      exact wpQuiet_mono2 hq l _ h

/-- THE LAW: 'L': the region's operations; n: how many stand before the store. -/
theorem region_quiet_store {P : Program} {id : Nat} {Q : Exit → Act → World → Prop} {a : Act} {w : World} {L : List Oper} (n : Nat) (ol : Oper) (hL : L = L.take n ++ [ol]) (hlen : (L.take n).length = n)
    (hm : P.follows .mixedOrders = true) (hB : Region.lexB .any (L.take n ++ [{ ol with op := .assign (.const undef) }]).toArray = true) (hb : backB L.toArray = true) (hs : sinkAt .any L.toArray n = true) (hg : ol.guard = none) (hd : ol.dst = none)
    (h : wpQuiet P L.toArray (fun w' => ∃ n, w' = w.drewN n) (fun a' => ∀ w', (∃ n, w' = w.drewN n) → ol.wp P a' w' (fun a'' w'' => Q .normal a'' w'') Q) (L.take n) a) : (Code.region id L.toArray true).wp P Q a w := by
  have hsz : L.toArray.size = n + 1 := by
    have : L.length = n + 1 := by rw [hL, List.length_append, hlen]; rfl
    simpa using this
  have hat : L.toArray[n]? = some ol := by
    rw [hL]; simp [hlen]
  have t : Twin L.toArray (L.take n ++ [{ ol with op := .assign (.const undef) }]).toArray n := by
    refine ⟨by simp [hlen]; simpa using hsz.symm, fun j hj => ?_, fun o oT h1 h2 => ?_⟩
    · conv => rhs; rw [hL]
      by_cases hjn : j < n
      · simp [List.getElem?_append_left, hlen, hjn]
      · have : n < j := by omega
        simp [List.getElem?_append_right, hlen, this]
        rw [List.getElem?_append_right (by omega), List.getElem?_append_right (by omega)]
        rw [List.getElem?_eq_none (by simp; omega), List.getElem?_eq_none (by simp; omega)]
    · have e : o = ol := Option.some.inj (h1.symm.trans hat)
      have e2 : oT = { ol with op := .assign (.const undef) } := by
        simp [hlen] at h2; exact h2.symm
      subst e e2
      exact ⟨rfl, rfl, rfl⟩
  have hB2 := hB
  simp only [Region.lexB, Bool.and_eq_true] at hB2
  refine wp_region_any hm ?_
  refine any_of_twin (C := fun w' => ∃ n, w' = w.drewN n) (oT := { ol with op := .assign (.const undef) }) t hsz hat (by simp [hlen]) rfl hg hd hb hs (Q0 := fun a' => ∀ w', (∃ n, w' = w.drewN n) → ol.wp P a' w' (fun a'' w'' => Q .normal a'' w'') Q) (fun a w hw hq => hq w hw) _ _ _ _ (by simp) (by simp [hsz]) ⟨1, rfl⟩ ?_
  have hfull : wpQuiet P (L.take n ++ [{ ol with op := .assign (.const undef) }]).toArray (fun w' => ∃ n, w' = w.drewN n) (fun a' => ∀ w', (∃ n, w' = w.drewN n) → ol.wp P a' w' (fun a'' w'' => Q .normal a'' w'') Q) (L.take n ++ [{ ol with op := .assign (.const undef) }]) a := by
    rw [wpQuiet_append]
    refine wpQuiet_twin t _ _ ?_
    refine wpQuiet_mono2 (fun a' hq => ?_) _ _ h
    unfold wpQuiet
    have hw2 : ∀ y, Region.wanted { ol with op := Op.assign (.const undef) } y = true := fun y => by unfold Region.wanted; rw [hg]
    rw [if_pos (hw2 _)]
    refine BigFrame.quiet_assign (.const undef) rfl ?_
    show wpQuiet _ _ _ _ [] _
    rw [hd]
    exact hq
  have hx := wpAnyQ_lex (C := fun w' => ∃ n, w' = w.drewN n) (md := .any) hB2.1 (L.take n ++ [{ ol with op := .assign (.const undef) }]) 0 (Array.replicate L.toArray.size false) a (by simp) (by rw [hsz]; simpa [hlen] using hB2.2) hfull
  have hfu : (L.take n ++ [{ ol with op := Op.assign (.const undef) }]).length = L.toArray.size := by rw [hsz]; simp [hlen]
  rw [hfu] at hx
  exact hx
theorem quiet_add {P : Program} {f : FuncId} {args : Array Value} {w : World} {a n : Nat} {v : Value}
    (h : Calls P f args (w.drewN (a + n)) fun e w' => e = .returned v ∧ ∃ m, w' = (w.drewN (a + n)).drewN m) :
    Calls P f args (w.drewN (a + n)) fun e w'' => e = .returned v ∧ ∃ m, w'' = w.drewN (a + m) :=
  h.mono fun _ _ ⟨he, m, hm⟩ => ⟨he, n + m, by rw [hm, World.drewN_drewN, Nat.add_assoc]⟩
theorem quiet_add_left {P : Program} {f : FuncId} {args : Array Value} {w : World} {a n : Nat} {v : Value}
    (h : Calls P f args (w.drewN (a + n)) fun e w' => e = .returned v ∧ w.drewN (a + n) = w') :
    Calls P f args (w.drewN (a + n)) fun e w'' => e = .returned v ∧ ∃ m, w'' = w.drewN (a + m) :=
  h.mono fun _ _ ⟨he, hm⟩ => ⟨he, n, hm.symm⟩
end Go.Proofs.YtconhjidpoimaaaDoor
