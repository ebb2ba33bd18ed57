/-
  The source that draws from bytes: contracts that say what is drawn only so far as the laws ask.
-/
import Derived.Test.YtmkmhljiajgibaaGreatDoorSl
import Derived.Laws.BitsAllLaws
namespace Go.Proofs.YtmkmhljiajgibaaGreatDoor
set_option linter.unusedVariables false
set_option linter.unusedSimpArgs false
open Go.RowKit

/-- w' is w but for block q and for new blocks. -/
structure But (q : Nat) (w w' : World) : Prop where
  os : w'.os = w.os
  tape : w'.tape = w.tape
  output : w'.output = w.output
  size : w.heap.size ≤ w'.heap.size
  block : ∀ k, k < w.heap.size → k ≠ q → w'.heap[k]? = w.heap[k]?
theorem But.refl (q : Nat) (w : World) : But q w w := ⟨rfl, rfl, rfl, Nat.le_refl _, fun _ _ _ => rfl⟩
theorem But.trans {q : Nat} {a b c : World} (h : But q a b) (k : But q b c) : But q a c :=
  ⟨k.os.trans h.os, k.tape.trans h.tape, k.output.trans h.output, Nat.le_trans h.size k.size, fun i hi hq => (k.block i (Nat.lt_of_lt_of_le hi h.size) hq).trans (h.block i hi hq)⟩
theorem But.drewN {q : Nat} {a w : World} (h : But q a w) (n : Nat) : But q a (w.drewN n) := ⟨h.os, h.tape, h.output, h.size, h.block⟩
theorem But.drew {q : Nat} {a w : World} (h : But q a w) : But q a w.drew := ⟨h.os, h.tape, h.output, h.size, h.block⟩
theorem But.of_below {q : Nat} {a w : World} (h : Below a.heap.size a w) : But q a w := ⟨h.os, h.tape, h.output, h.size, fun k hk _ => h.block k hk⟩
theorem But.alloc {q : Nat} {a w : World} (h : But q a w) (o : Obj) : But q a (w.alloc o) := h.trans (.of_below ((Below.refl _ _).alloc (Nat.le_refl _) o))
theorem But.set {q : Nat} {a w : World} (h : But q a w) (o : Nat) (v : Value) : But q a (w.setCell ⟨q, o, none⟩ v) :=
  h.trans ⟨rfl, rfl, rfl, by simp [World.setCell], fun k hk hq => Below.heap_setCell _ _ _ _ hq⟩
theorem But.cell {q : Nat} {w w' : World} (h : But q w w') {b : Nat} (o : Nat) (hb : b < w.heap.size) (hq : b ≠ q) : w'.cell? ⟨b, o, none⟩ = w.cell? ⟨b, o, none⟩ := World.cell?_of_block (w := w) (h.block b hb hq)
theorem But.frozen {q : Nat} {w w' : World} (h : But q w w') {b : Nat} (o : Nat) (hb : b < w.heap.size) (hq : b ≠ q) : w'.frozen? ⟨b, o, none⟩ = w.frozen? ⟨b, o, none⟩ := World.frozen?_of_block (w := w) (h.block b hb hq)
theorem But.below {q B : Nat} {w w' : World} (h : But q w w') (h1 : B ≤ q) (h2 : B ≤ w.heap.size) : Below B w w' := ⟨h.os, h.tape, h.output, h.size, fun k hk => h.block k (by omega) (by omega)⟩
/-- The bytes that are read lie below B. -/
def RowB (w : World) (B : Nat) (a : Option Addr) (n : Nat) (zs : List Int) : Prop :=
  n = 0 ∨ ∃ b o, a = some ⟨b, o, none⟩ ∧ b < B ∧ ∀ i, i < n → w.cell? ⟨b, o + i, none⟩ = some (.int .u8 (zs.getD i 0)) ∧ 0 ≤ zs.getD i 0 ∧ zs.getD i 0 ≤ 255
/-- Block q holds a source of at most m draws. -/
structure SrcAt (w : World) (B q m : Nat) (a : Option Addr) (n c : Nat) (zs : List Int) (k : Nat) (sd : Int) : Prop where
  c0 : w.cell? ⟨q, 0, none⟩ = some (.slice a n c)
  c1 : w.cell? ⟨q, 1, none⟩ = some (.int .i64 k)
  c2 : w.cell? ⟨q, 2, none⟩ = some (.int .u64 sd)
  f1 : w.frozen? ⟨q, 1, none⟩ = false
  f2 : w.frozen? ⟨q, 2, none⟩ = false
  row : RowB w B a n zs
  len : n ≤ 1048576
  at' : k ≤ m
  bq : B ≤ q
def Src (w : World) (B q m : Nat) : Prop := ∃ a n c zs k sd, SrcAt w B q m a n c zs k sd
theorem Src.keep {w w' : World} {B q m : Nat} (h : Src w B q m) (hc : ∀ b o, b < B ∨ b = q → w'.cell? ⟨b, o, none⟩ = w.cell? ⟨b, o, none⟩) (hf : ∀ o, w'.frozen? ⟨q, o, none⟩ = w.frozen? ⟨q, o, none⟩) : Src w' B q m := by
  obtain ⟨a, n, c, zs, k, sd, h⟩ := h
  refine ⟨a, n, c, zs, k, sd, (hc q 0 (.inr rfl)).trans h.c0, (hc q 1 (.inr rfl)).trans h.c1, (hc q 2 (.inr rfl)).trans h.c2, (hf 1).trans h.f1, (hf 2).trans h.f2, ?_, h.len, h.at', h.bq⟩
  rcases h.row with h0 | ⟨b, o, h1, h2, h3⟩
  · exact .inl h0
  · exact .inr ⟨b, o, h1, h2, fun i hi => ⟨(hc b _ (.inl h2)).trans (h3 i hi).1, (h3 i hi).2⟩⟩
theorem Src.lt {w : World} {B q m : Nat} (h : Src w B q m) : q < w.heap.size := by obtain ⟨_, _, _, _, _, _, h⟩ := h; exact cell_lt h.c0
theorem Src.bq {w : World} {B q m : Nat} (h : Src w B q m) : B ≤ q := by obtain ⟨_, _, _, _, _, _, h⟩ := h; exact h.bq
theorem Src.below {w w' : World} {B q m : Nat} (h : Src w B q m) (hb : Below w.heap.size w w') : Src w' B q m :=
  h.keep (fun b o hb' => (bcell hb).1 b o (by have := h.lt; have := h.bq; omega)) (fun o => (bcell hb).2 q o h.lt)
theorem Src.alloc {w : World} {B q m : Nat} (h : Src w B q m) (o : Obj) : Src (w.alloc o) B q m := h.below ((Below.refl _ _).alloc (Nat.le_refl _) o)
theorem Src.drewN {w : World} {B q m : Nat} (h : Src w B q m) (n : Nat) : Src (w.drewN n) B q m := h.keep (fun _ _ _ => rfl) (fun _ => rfl)
theorem Src.other {w : World} {B q m g : Nat} (h : Src w B q m) (hg : B ≤ g) (hq : g ≠ q) (o : Nat) (v : Value) : Src (w.setCell ⟨g, o, none⟩ v) B q m :=
  h.keep (fun b o' hb' => World.cell?_setCell_other _ _ _ _ (by have := h.bq; simp <;> omega)) (fun o' => World.frozen?_setCell _ _ _ _)
/-- What a drawing function leaves. -/
def Drawn (B q m : Nat) (w : World) (P : Int → Prop) (e : Ending) (w' : World) : Prop := ∃ v : Int, e = .returned (.int .i64 v) ∧ P v ∧ Src w' B q m ∧ But q w w'
def DrawnB (B q m : Nat) (w : World) (e : Ending) (w' : World) : Prop := ∃ v : Bool, e = .returned (.bool v) ∧ Src w' B q m ∧ But q w w'
theorem Drawn.mono {B q m : Nat} {w : World} {P Q : Int → Prop} (h : ∀ v, P v → Q v) (e : Ending) (w' : World) (hd : Drawn B q m w P e w') : Drawn B q m w Q e w' := by
  obtain ⟨v, a, b, c⟩ := hd; exact ⟨v, a, h v b, c⟩
theorem byte_u64 (x : Int) : 0 ≤ bits .and .u64 x 255 ∧ bits .and .u64 x 255 ≤ 255 := by
  show 0 ≤ IntKind.u64.wrap ((BitVec.ofInt 64 x &&& BitVec.ofInt 64 255).toNat : Int) ∧ IntKind.u64.wrap ((BitVec.ofInt 64 x &&& BitVec.ofInt 64 255).toNat : Int) ≤ 255
  have h : (BitVec.ofInt 64 x &&& BitVec.ofInt 64 255).toNat ≤ 255 := by
    rw [BitVec.toNat_and]; exact Nat.and_le_right
  generalize (BitVec.ofInt 64 x &&& BitVec.ofInt 64 255).toNat = y at *
  rw [IntKind.wrap_u64]
  omega
theorem byte_wrap (x : Int) : 0 ≤ wrap64 (bits .and .u64 x 255) ∧ wrap64 (bits .and .u64 x 255) ≤ 255 := by
  have h := byte_u64 x
  rw [IntWalk.wrap64_in _ ⟨by omega, by omega⟩]
  exact h
theorem SrcAt.drewN {w : World} {B q m : Nat} {a : Option Addr} {n c : Nat} {zs : List Int} {k : Nat} {sd : Int} (h : SrcAt w B q m a n c zs k sd) (j : Nat) : SrcAt (w.drewN j) B q m a n c zs k sd := ⟨h.c0, h.c1, h.c2, h.f1, h.f2, h.row, h.len, h.at', h.bq⟩
theorem SrcAt.step {w : World} {B q m : Nat} {a : Option Addr} {n c : Nat} {zs : List Int} {k : Nat} {sd : Int} (h : SrcAt w B q m a n c zs k sd) (sd' : Int) :
    Src ((w.setCell ⟨q, 1, none⟩ (.int .i64 ((k : Int) + 1))).setCell ⟨q, 2, none⟩ (.int .u64 sd')) B q (m + 1) := by
  have e : ((k : Int) + 1) = ((k + 1 : Nat) : Int) := by omega
  have g1 : (w.setCell ⟨q, 1, none⟩ (.int .i64 ((k : Int) + 1))).cell? ⟨q, 2, none⟩ = some (.int .u64 sd) := (World.cell?_setCell_other _ _ _ _ (by simp)).trans h.c2
  refine ⟨a, n, c, zs, k + 1, sd', ?_, ?_, World.cell?_setCell_same _ _ _ g1, ?_, ?_, ?_, h.len, by have := h.at'; omega, h.bq⟩
  · rw [World.cell?_setCell_other _ _ _ _ (by simp), World.cell?_setCell_other _ _ _ _ (by simp)]; exact h.c0
  · rw [World.cell?_setCell_other _ _ _ _ (by simp), World.cell?_setCell_same _ _ _ h.c1, e]
  · rw [World.frozen?_setCell, World.frozen?_setCell]; exact h.f1
  · rw [World.frozen?_setCell, World.frozen?_setCell]; exact h.f2
  · rcases h.row with h0 | ⟨b, o, h1, h2, h3⟩
    · exact .inl h0
    · refine .inr ⟨b, o, h1, h2, fun i hi => ⟨?_, (h3 i hi).2⟩⟩
      have := h.bq
      rw [World.cell?_setCell_other _ _ _ _ (by simp <;> omega), World.cell?_setCell_other _ _ _ _ (by simp <;> omega)]; exact (h3 i hi).1
set_option maxHeartbeats 2000000 in
theorem sNextIn (B q m : Nat) (b o n c : Nat) (zs : List Int) (k : Nat) (sd z : Int) (w : World) (S : SrcAt w B q m (some ⟨b, o, none⟩) n c zs k sd) (hm : m ≤ 1000000) (hlt : k < n) (hB : b < B) (hc : w.cell? ⟨b, o + k, none⟩ = some (.int .u8 z)) (z1 : 0 ≤ z) (z2 : z ≤ 255) :
    Calls Tryz.prog 52 #[.pointer (some ⟨q, 0, none⟩)] w (Drawn B q (m + 1) w fun v => 0 ≤ v ∧ v ≤ 255) := by
  have HS := Lib.hid S
  obtain ⟨c0, c1, c2, f1, f2, -, hn, hk, hBq⟩ := S
  have i0 : (0 : Int) ≤ k := by omega
  have i1 : (k : Int) < n := by omega
  have i2 : (k : Int).toNat = k := by omega
  have hbq : ¬ b = q := by omega
  have hqb : ¬ q = b := by omega
  have e8 : IntKind.i64.wrap z = z := IntWalk.i64_in _ (by omega)
  go_enter Tryz.func52, Tryz.ntmps52
  go_wp2
  go_quiet (fail)
  go_wp2
  go_quiet (fail)
  go_wp2
  go_quiet (fail)
  go_wp2
  go_ret
  exact ⟨z, rfl, ⟨z1, z2⟩, by first | exact ((HS.out.drewN _).step _).drewN _ | exact (HS.out.drewN _).step _ | exact (HS.out.step _).drewN _ | exact HS.out.step _, by (repeat (first | exact But.refl _ _ | assumption | (refine But.drewN ?_ _) | (refine But.drew ?_) | (refine But.alloc ?_ _) | (refine But.set ?_ _ _) | (refine But.setO ?_ (by omega) _ _) | (refine But.trans ?_ (by assumption)) | (refine But.trans ?_ (But.of_below (by assumption)))))⟩
set_option maxHeartbeats 2000000 in
theorem sNextOut (B q m : Nat) (a : Option Addr) (n c : Nat) (zs : List Int) (k : Nat) (sd : Int) (w : World) (S : SrcAt w B q m a n c zs k sd) (hm : m ≤ 1000000) (hlt : n ≤ k) :
    Calls Tryz.prog 52 #[.pointer (some ⟨q, 0, none⟩)] w (Drawn B q (m + 1) w fun v => 0 ≤ v ∧ v ≤ 255) := by
  have HS := Lib.hid S
  obtain ⟨c0, c1, c2, f1, f2, -, hn, hk, hBq⟩ := S
  have i0 : ¬ (k : Int) < n := by omega
  have i1 : ¬ (k : Int) + 1 ≤ n := by omega
  have HB := Lib.hid byte_u64
  have sh : ∀ x : Int, True := fun _ => trivial
  clear sh
  go_enter Tryz.func52, Tryz.ntmps52
  go_wp2
  go_quiet (fail)
  go_wp2
  go_quiet (fail)
  go_wp2
  go_ret
  exact ⟨_, rfl, byte_wrap _, by first | exact ((HS.out.drewN _).step _).drewN _ | exact (HS.out.drewN _).step _ | exact (HS.out.step _).drewN _ | exact HS.out.step _, by (repeat (first | exact But.refl _ _ | assumption | (refine But.drewN ?_ _) | (refine But.drew ?_) | (refine But.alloc ?_ _) | (refine But.set ?_ _ _) | (refine But.setO ?_ (by omega) _ _) | (refine But.trans ?_ (by assumption)) | (refine But.trans ?_ (But.of_below (by assumption)))))⟩
theorem sNext (B q m : Nat) (w : World) (S : Src w B q m) (hm : m ≤ 1000000) :
    Calls Tryz.prog 52 #[.pointer (some ⟨q, 0, none⟩)] w (Drawn B q (m + 1) w fun v => 0 ≤ v ∧ v ≤ 255) := by
  obtain ⟨a, n, c, zs, k, sd, S⟩ := S
  by_cases h : k < n
  · rcases S.row with h0 | ⟨b, o, rfl, h2, h3⟩
    · omega
    · exact sNextIn B q m b o n c zs k sd _ w S hm h h2 (h3 k h).1 (h3 k h).2.1 (h3 k h).2.2
  · exact sNextOut B q m a n c zs k sd w S hm (by omega)
theorem Src.more {w : World} {B q m m' : Nat} (h : Src w B q m) (hm : m ≤ m') : Src w B q m' := by
  obtain ⟨a, n, c, zs, k, sd, h⟩ := h
  exact ⟨a, n, c, zs, k, sd, h.c0, h.c1, h.c2, h.f1, h.f2, h.row, h.len, Nat.le_trans h.at' hm, h.bq⟩
theorem sPick (B q m : Nat) (n : Int) (w : World) (S : Src w B q m) (hm : m ≤ 900000) (h1 : 1 ≤ n) (h2 : n ≤ 1000000000000) :
    Calls Tryz.prog 41 #[.pointer (some ⟨q, 0, none⟩), .int .i64 n] w (Drawn B q (m + 2) w fun v => 0 ≤ v ∧ v < n) := by
  by_cases hn : n ≤ 1
  · go_enter Tryz.func41, Tryz.ntmps41
    go_wp2
    go_ret
    exact ⟨0, rfl, ⟨by omega, by omega⟩, S.more (by omega), by (repeat (first | exact But.refl _ _ | assumption | (refine But.drewN ?_ _) | (refine But.drew ?_) | (refine But.alloc ?_ _) | (refine But.set ?_ _ _) | (refine But.setO ?_ (by omega) _ _) | (refine But.trans ?_ (by assumption)) | (refine But.trans ?_ (But.of_below (by assumption)))))⟩
  · have hn0 : n ≠ 0 := by omega
    by_cases hb : n ≤ 200
    · go_enter Tryz.func41, Tryz.ntmps41
      go_wp2_with (go_at_call 52; (with_reducible refine (sNext _ _ _ _ (by assumption) (by omega)).mono ?_); rintro e w' ⟨v, rfl, ⟨hv1, hv2⟩, hsrc, hbut⟩)
      go_ret
      exact ⟨_, rfl, ⟨Int.emod_nonneg _ hn0, Int.emod_lt_of_pos _ (by omega)⟩, hsrc.more (by omega), by (repeat (first | exact But.refl _ _ | assumption | (refine But.drewN ?_ _) | (refine But.drew ?_) | (refine But.alloc ?_ _) | (refine But.set ?_ _ _) | (refine But.setO ?_ (by omega) _ _) | (refine But.trans ?_ (by assumption)) | (refine But.trans ?_ (But.of_below (by assumption)))))⟩
    · go_enter Tryz.func41, Tryz.ntmps41
      go_wp2_with (go_at_call 52; (with_reducible refine (sNext _ _ _ _ (by assumption) (by omega)).mono ?_); rintro e w' ⟨v, rfl, ⟨hv1, hv2⟩, hsrc, hbut⟩)
      go_ret
      exact ⟨_, rfl, ⟨Int.emod_nonneg _ hn0, Int.emod_lt_of_pos _ (by omega)⟩, hsrc.more (by omega), by (repeat (first | exact But.refl _ _ | assumption | (refine But.drewN ?_ _) | (refine But.drew ?_) | (refine But.alloc ?_ _) | (refine But.set ?_ _ _) | (refine But.setO ?_ (by omega) _ _) | (refine But.trans ?_ (by assumption)) | (refine But.trans ?_ (But.of_below (by assumption)))))⟩
theorem sOne (B q m : Nat) (n : Int) (w : World) (S : Src w B q m) (hm : m ≤ 900000) (h1 : 1 ≤ n) (h2 : n ≤ 1000000000000) :
    Calls Tryz.prog 50 #[.pointer (some ⟨q, 0, none⟩), .int .i64 n] w (DrawnB B q (m + 2) w) := by
  go_enter Tryz.func50, Tryz.ntmps50
  go_wp2_with (go_at_call 41; (with_reducible refine (sPick _ _ _ _ _ (by assumption) (by omega) (by omega) (by omega)).mono ?_); rintro e w' ⟨v, rfl, ⟨hv1, hv2⟩, hsrc, hbut⟩)
  all_goals go_ret
  all_goals exact ⟨_, rfl, hsrc, by (repeat (first | exact But.refl _ _ | assumption | (refine But.drewN ?_ _) | (refine But.drew ?_) | (refine But.alloc ?_ _) | (refine But.set ?_ _ _) | (refine But.setO ?_ (by omega) _ _) | (refine But.trans ?_ (by assumption)) | (refine But.trans ?_ (But.of_below (by assumption)))))⟩
theorem rowNew (zs : List Int) (t : TypeId) (w : World) : RowAt (w.alloc (.cells (zs.map fun z => Value.int .i64 z).toArray t)) (some ⟨w.heap.size, 0, none⟩) zs.length zs := by
  refine ⟨rfl, .inr ⟨w.heap.size, 0, rfl, fun i hi => ?_⟩⟩
  rw [World.cell?_alloc_new]
  simp [List.getD, hi]
/-- One of some numbers. -/
theorem sAmong (B q m : Nat) (zs : List Int) (a : Option Addr) (n c : Nat) (w : World) (S : Src w B q m) (R : RowAt w a n zs) (hq : ∀ o, a ≠ some ⟨q, o, none⟩) (hm : m ≤ 900000) (h1 : 1 ≤ n) (h2 : n ≤ 1000000) :
    Calls Tryz.prog 51 #[.pointer (some ⟨q, 0, none⟩), .slice a n c] w (Drawn B q (m + 2) w fun v => v ∈ zs) := by
  obtain ⟨b, o, rfl, hc⟩ : ∃ b o, a = some ⟨b, o, none⟩ ∧ ∀ i, i < n → w.cell? ⟨b, o + i, none⟩ = some (.int .i64 (zs.getD i 0)) := by
    rcases R.2 with h | h
    · omega
    · exact h
  have HM : Hid (∀ j : Nat, j < n → zs.getD j 0 ∈ zs) := fun j hj => by
    have hj' : j < zs.length := by have := R.1; omega
    rw [show zs.getD j 0 = zs[j] by simp [List.getD, hj']]; exact List.getElem_mem hj'
  have hbq : b ≠ q := fun e => hq o (by rw [e])
  have hblt := cell_lt (hc 0 (by omega))
  have HC := Lib.hid hc
  clear hc hq R
  go_enter Tryz.func51, Tryz.ntmps51
  go_wp2_with (go_at_call 41; (with_reducible refine (sPick _ _ _ _ _ (by assumption) (by omega) (by omega) (by omega)).mono ?_); rintro e w' ⟨v, rfl, ⟨hv1, hv2⟩, hsrc, hbut⟩; obtain ⟨j, rfl⟩ := Int.eq_ofNat_of_zero_le hv1; have hj : j < n := (by omega); have hcell := (hbut.cell (o + j) hblt hbq).trans (HC.out j hj); have HJ := Lib.hid (HM.out j hj); (generalize zs.getD j 0 = z at *))
  go_ret
  exact ⟨_, rfl, HJ.out, hsrc, by (repeat (first | exact But.refl _ _ | assumption | (refine But.drewN ?_ _) | (refine But.drew ?_) | (refine But.alloc ?_ _) | (refine But.set ?_ _ _) | (refine But.setO ?_ (by omega) _ _) | (refine But.trans ?_ (by assumption)) | (refine But.trans ?_ (But.of_below (by assumption)))))⟩
theorem newNe {g q : Nat} (h : q < g) (o : Nat) : (some ⟨g, 0, none⟩ : Option Addr) ≠ some ⟨q, o, none⟩ := by
  intro e
  injection e with e1
  injection e1 with e2
  omega
theorem sAmongNew (B q m : Nat) (zs : List Int) (k : Nat) (cs : Array Value) (t : TypeId) (w : World) (S : Src w B q m) (hcs : (zs.map fun z => Value.int .i64 z).toArray = cs) (hk : zs.length = k) (hm : m ≤ 900000) (h1 : 1 ≤ k) (h2 : k ≤ 1000000) :
    Calls Tryz.prog 51 #[.pointer (some ⟨q, 0, none⟩), .slice (some ⟨w.heap.size, 0, none⟩) k k] (w.alloc (.cells cs t)) (Drawn B q (m + 2) w fun v => v ∈ zs) := by
  subst hcs hk
  exact (sAmong B q m zs _ _ _ _ (S.alloc _) (rowNew zs t w) (newNe S.lt) hm h1 h2).mono fun e w' ⟨v, a, b, c, d⟩ => ⟨v, a, b, c, ((But.refl q w).alloc _).trans d⟩
/-- From bytes that came in. -/
theorem sFrom (a : Option Addr) (n c : Nat) (zs : List Int) (w : World) (R : IsRow .u8 w a n c zs) (hn : n ≤ 1048576) :
    Calls Tryz.prog 26 #[.slice a n c] w fun e w' => e = .returned (.pointer (some ⟨w.heap.size, 0, none⟩)) ∧ Src w' w.heap.size w.heap.size 0 ∧ Below w.heap.size w w' ∧ w.heap.size < w'.heap.size := by
  have key : Src (w.alloc (.cells #[.slice a n c, .int .i64 0, .int .u64 0] 63)) w.heap.size w.heap.size 0 := by
    refine ⟨a, n, c, zs, 0, 0, ?_, ?_, ?_, World.frozen?_alloc_at _ _ _ _ rfl, World.frozen?_alloc_at _ _ _ _ rfl, ?_, hn, Nat.le_refl _, Nat.le_refl _⟩
    · rw [World.cell?_alloc_new]; rfl
    · rw [World.cell?_alloc_new]; rfl
    · rw [World.cell?_alloc_new]; rfl
    · rcases R with ⟨rfl, rfl, rfl, rfl⟩ | ⟨x, rfl, h1, h2, h3, h4, h5⟩
      · exact .inl rfl
      · by_cases g : n = 0
        · exact .inl g
        · right
          obtain ⟨b, o, s⟩ := x
          have hs : s = none := by simpa [Addr.add] using World.cell?_spot (h4 0 (by omega))
          subst hs
          have hb0 : b < w.heap.size := by have h6 := h4 0 (by omega); rw [add_plain1] at h6; exact cell_lt h6
          refine ⟨b, o, rfl, hb0, fun i hi => ?_⟩
          have h6 := h4 i (by omega)
          rw [add_plain1] at h6
          have hm : zs.getD i 0 ∈ zs := by
            have hj' : i < zs.length := by omega
            rw [show zs.getD i 0 = zs[i] by simp [List.getD, hj']]; exact List.getElem_mem hj'
          have h7 : 0 ≤ zs.getD i 0 ∧ zs.getD i 0 ≤ 255 := by
            have := h5 _ hm
            simpa [Lit.wf, IntKind.min, IntKind.max, IntKind.signed, IntKind.bits] using this
          exact ⟨by rw [World.cell?_alloc_past _ _ _ hb0]; exact h6, h7⟩
  have K := Lib.hid key
  clear key
  go_enter Tryz.func26, Tryz.ntmps26
  go_wp2
  go_ret
  exact ⟨rfl, K.out, by (repeat (first | exact Below.refl _ _ | assumption | (refine Below.drewN ?_ _) | (refine Below.drew ?_) | (refine Below.alloc ?_ (by first | (simp; done) | (simp; omega) | omega) _) | (refine Below.setCell ?_ (by first | (simp; done) | (simp; omega) | omega) _) | (refine Below.trans ?_ (Below.mono (by assumption) (by first | (simp; done) | (simp; omega) | omega))))), by simp⟩
end Go.Proofs.YtmkmhljiajgibaaGreatDoor
