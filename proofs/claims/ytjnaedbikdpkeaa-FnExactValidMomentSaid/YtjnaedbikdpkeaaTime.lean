/-
  Contracts of the functions on days, dates and moments: what each computes, over whatever arguments.
-/
import Derived.Test.YtjnaedbikdpkeaaRows
import Derived.WalkKit
import Derived.BigQuiet
import Derived.Deep.QuietTactic
import Derived.WalkLawsBesides
import Derived.Test.YtjnaedbikdpkeaaBase
import Derived.Test.YtjnaedbikdpkeaaMt
namespace Go.Proofs.Ytjnaedbikdpkeaa
set_option linter.unusedVariables false
set_option linter.unusedSimpArgs false
open Go.RowKit

theorem sDay (d : Int) (w : World) : Calls Try.prog 21 #[.int .i64 d] w fun e w' => e = .returned (.bool (inB d 0 99999)) ∧ w = w' := by
  go_enter Try.func21, Try.ntmps21
  go_wp2_with (go_at_call 18; (with_reducible refine (sIn _ _ _ _).mono ?_); rintro e w' ⟨rfl, rfl⟩)
  go_ret
  exact ⟨rfl, rfl⟩
theorem lToMoment (d m : Int) (w : World) :
    Calls Try.prog 15 #[.agg #[.int .i64 d, .int .i64 m]] w fun e w' => e = .returned (.agg #[.int .i64 d, .int .i64 m]) ∧ Below w.heap.size w w' := by
  go_enter Try.func15, Try.ntmps15
  go_wp2
  exact bodyPost_ret (v := .agg #[.int .i64 d, .int .i64 m]) (by simp [results, Try.results15, go_sem]) rfl ⟨rfl, by (repeat (first | exact Below.refl _ _ | assumption | (refine Below.drewN ?_ _) | (refine Below.drew ?_) | (refine Below.alloc ?_ (by first | (simp; done) | (simp; omega) | omega) _) | (refine Below.setCell ?_ (by first | (simp; done) | (simp; omega) | omega) _) | (refine Below.trans ?_ (Below.mono (by assumption) (by first | (simp; done) | (simp; omega) | omega)))))⟩
theorem iValidMoment (d m : Int) (w : World) :
    Calls Try.prog 16 #[.agg #[.int .i64 d, .int .i64 m]] w fun e w' => e = .returned (.bool (okM d m)) ∧ Below w.heap.size w w' := by
  unfold okM
  cases h1 : inB d 0 99999 <;> cases h2 : inB m 0 86399999
  all_goals
    go_enter Try.func16, Try.ntmps16
    go_wp2_with (go_at_call 19; (with_reducible refine (iWithin _ _ _ _).mono ?_); rintro e w' ⟨rfl, rfl⟩)
    go_ret
    exact ⟨rfl, by (repeat (first | exact Below.refl _ _ | assumption | (refine Below.drewN ?_ _) | (refine Below.drew ?_) | (refine Below.alloc ?_ (by first | (simp; done) | (simp; omega) | omega) _) | (refine Below.setCell ?_ (by first | (simp; done) | (simp; omega) | omega) _) | (refine Below.trans ?_ (Below.mono (by assumption) (by first | (simp; done) | (simp; omega) | omega)))))⟩
theorem sOkM (d m : Int) (w : World) :
    Calls Try.prog 20 #[.agg #[.int .i64 d, .int .i64 m]] w fun e w' => e = .returned (.bool (okM d m)) ∧ Below w.heap.size w w' := by
  unfold okM
  cases h1 : inB d 0 99999 <;> cases h2 : inB m 0 86399999
  all_goals
    go_enter Try.func20, Try.ntmps20
    go_wp2_with (first | (go_at_call 18; (with_reducible refine (sIn _ _ _ _).mono ?_); rintro e w' ⟨rfl, rfl⟩) | (go_at_call 21; (with_reducible refine (sDay _ _).mono ?_); rintro e w' ⟨rfl, rfl⟩))
    go_ret
    exact ⟨rfl, by (repeat (first | exact Below.refl _ _ | assumption | (refine Below.drewN ?_ _) | (refine Below.drew ?_) | (refine Below.alloc ?_ (by first | (simp; done) | (simp; omega) | omega) _) | (refine Below.setCell ?_ (by first | (simp; done) | (simp; omega) | omega) _) | (refine Below.trans ?_ (Below.mono (by assumption) (by first | (simp; done) | (simp; omega) | omega)))))⟩
theorem sValidMoment (d m : Int) (w : World) :
    Calls Try.prog 14 #[.agg #[.int .i64 d, .int .i64 m]] w fun e w' => e = .returned (.bool (okM d m)) ∧ Below w.heap.size w w' := by
  go_enter Try.func14, Try.ntmps14
  go_wp2_with (go_at_call 20; (with_reducible refine (sOkM _ _ _).mono ?_); rintro e w' ⟨rfl, hb⟩; have hs := hb.size; (try simp at hs); (try have hz : w.heap.size < w'.heap.size := by omega); (try have hz1 : w.heap.size + 1 < w'.heap.size := by omega); obtain ⟨hc, hf⟩ := bcell hb)
  go_ret
  exact ⟨rfl, by (repeat (first | exact Below.refl _ _ | assumption | (refine Below.drewN ?_ _) | (refine Below.drew ?_) | (refine Below.alloc ?_ (by first | (simp; done) | (simp; omega) | omega) _) | (refine Below.setCell ?_ (by first | (simp; done) | (simp; omega) | omega) _) | (refine Below.trans ?_ (Below.mono (by assumption) (by first | (simp; done) | (simp; omega) | omega)))))⟩
theorem walk_FnExactValidMoment (a0_0 a0_1 : Int) (w : World) (w0_0 : (Lit.int .i64 a0_0).wf = true) (w0_1 : (Lit.int .i64 a0_1).wf = true) :
    Calls Try.prog 7 #[.agg #[.int .i64 a0_0, .int .i64 a0_1]] w fun e w' => e = .returned (.bool true) ∧ Below w.heap.size w w' := by
  go_enter Try.func7, Try.ntmps7
  go_wp2_with (first | (go_at_call 15; (with_reducible refine (lToMoment _ _ _).mono ?_); rintro e w' ⟨rfl, hb⟩; have hs := hb.size; (try simp at hs); (try have hz : w.heap.size < w'.heap.size := by omega); (try have hz1 : w.heap.size + 1 < w'.heap.size := by omega); obtain ⟨hc, hf⟩ := bcell hb) | (go_at_call 14; (with_reducible refine (sValidMoment _ _ _).mono ?_); rintro e w' ⟨rfl, hb⟩; have hs := hb.size; (try simp at hs); (try have hz : w.heap.size < w'.heap.size := by omega); (try have hz1 : w.heap.size + 1 < w'.heap.size := by omega); obtain ⟨hc, hf⟩ := bcell hb) | (go_at_call 16; (with_reducible refine (iValidMoment _ _ _).mono ?_); rintro e w' ⟨rfl, hb⟩; have hs := hb.size; (try simp at hs); (try have hz : w.heap.size < w'.heap.size := by omega); (try have hz1 : w.heap.size + 1 < w'.heap.size := by omega); obtain ⟨hc, hf⟩ := bcell hb))
  go_ret
  exact ⟨rfl, by (repeat (first | exact Below.refl _ _ | assumption | (refine Below.drewN ?_ _) | (refine Below.drew ?_) | (refine Below.alloc ?_ (by first | (simp; done) | (simp; omega) | omega) _) | (refine Below.setCell ?_ (by first | (simp; done) | (simp; omega) | omega) _) | (refine Below.trans ?_ (Below.mono (by assumption) (by first | (simp; done) | (simp; omega) | omega)))))⟩
/-- The day of the week, with the error's code. -/
def wdA (d : Int) : Int := if inB d 0 99999 then (d + 5) % 7 else 0
def wdC (d : Int) : Int := if inB d 0 99999 then 0 else 2
end Go.Proofs.Ytjnaedbikdpkeaa
