/-
  Contracts of the next moment at which the sky has an angle.
-/
import Derived.Test.YtgeipijifcebmaaDoorDate
import Derived.Test.YtgeipijifcebmaaDoorAngle
import Derived.Deep.RegionHeld3
import Derived.Deep.DrawnRows
namespace Go.Proofs.YtgeipijifcebmaaDoor
set_option linter.unusedVariables false
set_option linter.unusedSimpArgs false
open Go.RowKit
attribute [local go_sem ↓] Go.wp_at_zero Go.wp_at_succ
attribute [local go_sem] nn_e2 nn_e3 nn_e4 nn_f2 nn_f3 nn_f4 nn_l2 nn_l3 nn_l4 nn_m3 nn_m4 nn_k4

theorem iNextSidereal (d m l a : Int) (w : World) :
    Calls Tryd.prog 44 #[.agg #[.int .i64 d, .int .i64 m], .int .i64 l, .int .i64 a] w fun e w' => e = .returned (.tuple #[.agg #[.int .i64 (nsD d m l a), .int .i64 (nsM d m l a)], .int .i64 (nsC d m l a)]) ∧ Below w.heap.size w w' := by
  cases c1 : okM d m
  · have e1 : nsC d m l a = 1 := by simp [nsC, c1]
    have e2 : nsD d m l a = 0 := by simp [nsD, e1]
    have e3 : nsM d m l a = 0 := by simp [nsM, e1]
    rw [e1, e2, e3]; clear e1 e2 e3
    go_enter Tryd.func44, Tryd.ntmps44
    go_wp2_with (go_at_call 65; (with_reducible refine (iValidMoment _ _ _).mono ?_); rintro e w' ⟨rfl, hb⟩; have hs := hb.size; (try simp at hs); (try have hz : w.heap.size < w'.heap.size := by omega); (try have hy : w.heap.size < w'.heap.size + 1 := by omega); (try have hyy : w.heap.size < w'.heap.size + 1 + 1 := by omega); (try have hz1 : w.heap.size + 1 < w'.heap.size := by omega); (try have hn : ¬ w'.heap.size = w.heap.size := by omega); (try have hn1 : ¬ w'.heap.size = w.heap.size + 1 := by omega); (try have hz2 : w.heap.size + 1 + 1 < w'.heap.size := by omega); (try have hq := Nat.lt_of_lt_of_le (by assumption) hs); (try have hq := Nat.lt_of_succ_le hs); obtain ⟨hc, hf⟩ := bcell hb; (try simp only [World.size_drew, World.cell?_drew, World.frozen?_drew, World.heap_drewN, World.cell?_drewN, World.frozen?_drewN] at hc hf))
    exact bodyPost_ret (v := .tuple #[.agg #[.int .i64 0, .int .i64 0], .int .i64 1]) (by simp [results, Tryd.results44, go_sem, *]) rfl ⟨rfl, by (repeat (first | exact Below.refl _ _ | assumption | (refine Below.drewN ?_ _) | (refine Below.drew ?_) | (refine Below.alloc ?_ (by first | (simp; done) | (simp; omega) | omega) _) | (refine Below.setCell ?_ (by first | (simp; done) | (simp; omega) | omega) _) | (refine Below.trans ?_ (Below.mono (by assumption) (by first | (simp; done) | (simp; omega) | omega)))))⟩
  cases c3 : inB l 0 359999
  · have e1 : nsC d m l a = 2 := by simp [nsC, c1, c3]
    have e2 : nsD d m l a = 0 := by simp [nsD, e1]
    have e3 : nsM d m l a = 0 := by simp [nsM, e1]
    rw [e1, e2, e3]; clear e1 e2 e3
    go_enter Tryd.func44, Tryd.ntmps44
    go_wp2_with (first | (go_at_call 65; (with_reducible refine (iValidMoment _ _ _).mono ?_); rintro e w' ⟨rfl, hb⟩; have hs := hb.size; (try simp at hs); (try have hz : w.heap.size < w'.heap.size := by omega); (try have hy : w.heap.size < w'.heap.size + 1 := by omega); (try have hyy : w.heap.size < w'.heap.size + 1 + 1 := by omega); (try have hz1 : w.heap.size + 1 < w'.heap.size := by omega); (try have hn : ¬ w'.heap.size = w.heap.size := by omega); (try have hn1 : ¬ w'.heap.size = w.heap.size + 1 := by omega); (try have hz2 : w.heap.size + 1 + 1 < w'.heap.size := by omega); (try have hq := Nat.lt_of_lt_of_le (by assumption) hs); (try have hq := Nat.lt_of_succ_le hs); obtain ⟨hc, hf⟩ := bcell hb; (try simp only [World.size_drew, World.cell?_drew, World.frozen?_drew, World.heap_drewN, World.cell?_drewN, World.frozen?_drewN] at hc hf)) | (go_at_call 60; (with_reducible refine (iWithin _ _ _ _).mono ?_); rintro e w' ⟨rfl, rfl⟩))
    exact bodyPost_ret (v := .tuple #[.agg #[.int .i64 0, .int .i64 0], .int .i64 2]) (by simp [results, Tryd.results44, go_sem, *]) rfl ⟨rfl, by (repeat (first | exact Below.refl _ _ | assumption | (refine Below.drewN ?_ _) | (refine Below.drew ?_) | (refine Below.alloc ?_ (by first | (simp; done) | (simp; omega) | omega) _) | (refine Below.setCell ?_ (by first | (simp; done) | (simp; omega) | omega) _) | (refine Below.trans ?_ (Below.mono (by assumption) (by first | (simp; done) | (simp; omega) | omega)))))⟩
  cases c4 : inB a 0 359999
  · have e1 : nsC d m l a = 2 := by simp [nsC, c1, c3, c4]
    have e2 : nsD d m l a = 0 := by simp [nsD, e1]
    have e3 : nsM d m l a = 0 := by simp [nsM, e1]
    rw [e1, e2, e3]; clear e1 e2 e3
    go_enter Tryd.func44, Tryd.ntmps44
    go_wp2_with (first | (go_at_call 65; (with_reducible refine (iValidMoment _ _ _).mono ?_); rintro e w' ⟨rfl, hb⟩; have hs := hb.size; (try simp at hs); (try have hz : w.heap.size < w'.heap.size := by omega); (try have hy : w.heap.size < w'.heap.size + 1 := by omega); (try have hyy : w.heap.size < w'.heap.size + 1 + 1 := by omega); (try have hz1 : w.heap.size + 1 < w'.heap.size := by omega); (try have hn : ¬ w'.heap.size = w.heap.size := by omega); (try have hn1 : ¬ w'.heap.size = w.heap.size + 1 := by omega); (try have hz2 : w.heap.size + 1 + 1 < w'.heap.size := by omega); (try have hq := Nat.lt_of_lt_of_le (by assumption) hs); (try have hq := Nat.lt_of_succ_le hs); obtain ⟨hc, hf⟩ := bcell hb; (try simp only [World.size_drew, World.cell?_drew, World.frozen?_drew, World.heap_drewN, World.cell?_drewN, World.frozen?_drewN] at hc hf)) | (go_at_call 60; (with_reducible refine (iWithin _ _ _ _).mono ?_); rintro e w' ⟨rfl, rfl⟩))
    exact bodyPost_ret (v := .tuple #[.agg #[.int .i64 0, .int .i64 0], .int .i64 2]) (by simp [results, Tryd.results44, go_sem, *]) rfl ⟨rfl, by (repeat (first | exact Below.refl _ _ | assumption | (refine Below.drewN ?_ _) | (refine Below.drew ?_) | (refine Below.alloc ?_ (by first | (simp; done) | (simp; omega) | omega) _) | (refine Below.setCell ?_ (by first | (simp; done) | (simp; omega) | omega) _) | (refine Below.trans ?_ (Below.mono (by assumption) (by first | (simp; done) | (simp; omega) | omega)))))⟩
  have b1 := okM_t c1
  have b2 := inB_t c3
  have b3 := inB_t c4
  have b4 : 0 ≤ allOf d m ∧ allOf d m ≤ 8639999999999 := by unfold allOf; omega
  have b5 := turned_bd b4.1 (show allOf d m ≤ 9000000000000 by omega)
  have e0 : sidA d m l = (99968 + l + turned (allOf d m)) % 360000 := by simp [sidA, c1, c3]
  have hday := turned_day (t := allOf d m)
  have hm2 := turned_mono (show allOf d m + 86400000 ≤ allOf d m + 172800000 by omega)
  have K0 : ∀ t : Int, IsNext (allOf d m) (turned (allOf d m) + (a - (99968 + l + turned (allOf d m))) % 360000) t → nsD d m l a = (if t < 8640000000000 then t / 86400000 else 0) ∧ nsM d m l a = (if t < 8640000000000 then t % 86400000 else 0) ∧ nsC d m l a = (if t < 8640000000000 then 0 else 6) := fun t h => ns_out c1 c3 c4 h
  generalize nsD d m l a = RD at *
  generalize nsM d m l a = RM at *
  generalize nsC d m l a = RC at *
  obtain ⟨G, hG⟩ : ∃ G, G = turned (allOf d m) + (a - (99968 + l + turned (allOf d m))) % 360000 := ⟨_, rfl⟩
  rw [← hG] at K0
  have K := Lib.hid K0
  clear K0
  have g0 : turned (allOf d m) ≤ G ∧ G ≤ turned (allOf d m) + 359999 := by omega
  have q1 : turned (allOf d m) + (a - (99968 + l + turned (allOf d m))) % 360000 = G := hG.symm
  clear hG
  have NY := NotYet.start (allOf d m) G
  have e00 : sidC d m l = 0 := by simp [sidC, c1, c3]
  go_enter Tryd.func44, Tryd.ntmps44
  go_wp2_with (first | (go_at_call 65; (with_reducible refine (iValidMoment _ _ _).mono ?_); rintro e w' ⟨rfl, hb⟩; have hs := hb.size; (try simp at hs); (try have hz : w.heap.size < w'.heap.size := by omega); (try have hy : w.heap.size < w'.heap.size + 1 := by omega); (try have hyy : w.heap.size < w'.heap.size + 1 + 1 := by omega); (try have hz1 : w.heap.size + 1 < w'.heap.size := by omega); (try have hn : ¬ w'.heap.size = w.heap.size := by omega); (try have hn1 : ¬ w'.heap.size = w.heap.size + 1 := by omega); (try have hz2 : w.heap.size + 1 + 1 < w'.heap.size := by omega); (try have hq := Nat.lt_of_lt_of_le (by assumption) hs); (try have hq := Nat.lt_of_succ_le hs); obtain ⟨hc, hf⟩ := bcell hb; (try simp only [World.size_drew, World.cell?_drew, World.frozen?_drew, World.heap_drewN, World.cell?_drewN, World.frozen?_drewN] at hc hf)) | (go_at_call 60; (with_reducible refine (iWithin _ _ _ _).mono ?_); rintro e w' ⟨rfl, rfl⟩) | (go_at_call 43; (with_reducible refine (iSidereal _ _ _ _).mono ?_); rintro e w' ⟨rfl, hb⟩; have hs := hb.size; (try simp at hs); (try have hz : w.heap.size < w'.heap.size := by omega); (try have hy : w.heap.size < w'.heap.size + 1 := by omega); (try have hyy : w.heap.size < w'.heap.size + 1 + 1 := by omega); (try have hz1 : w.heap.size + 1 < w'.heap.size := by omega); (try have hn : ¬ w'.heap.size = w.heap.size := by omega); (try have hn1 : ¬ w'.heap.size = w.heap.size + 1 := by omega); (try have hz2 : w.heap.size + 1 + 1 < w'.heap.size := by omega); (try have hq := Nat.lt_of_lt_of_le (by assumption) hs); (try have hq := Nat.lt_of_succ_le hs); obtain ⟨hc, hf⟩ := bcell hb; (try simp only [World.size_drew, World.cell?_drew, World.frozen?_drew, World.heap_drewN, World.cell?_drewN, World.frozen?_drewN] at hc hf)) | (go_at_call 66; (with_reducible refine (iMilliOf _ _ _ (by omega) (by omega) (by omega) (by omega)).mono ?_); rintro e w' ⟨rfl, hb⟩; have hs := hb.size; (try simp at hs); (try have hz : w.heap.size < w'.heap.size := by omega); (try have hy : w.heap.size < w'.heap.size + 1 := by omega); (try have hyy : w.heap.size < w'.heap.size + 1 + 1 := by omega); (try have hz1 : w.heap.size + 1 < w'.heap.size := by omega); (try have hn : ¬ w'.heap.size = w.heap.size := by omega); (try have hn1 : ¬ w'.heap.size = w.heap.size + 1 := by omega); (try have hz2 : w.heap.size + 1 + 1 < w'.heap.size := by omega); (try have hq := Nat.lt_of_lt_of_le (by assumption) hs); (try have hq := Nat.lt_of_succ_le hs); obtain ⟨hc, hf⟩ := bcell hb; (try simp only [World.size_drew, World.cell?_drew, World.frozen?_drew, World.heap_drewN, World.cell?_drewN, World.frozen?_drewN] at hc hf)) | (go_at_call 81; (with_reducible refine (iTurned _ _ (by omega) (by omega)).mono ?_); rintro e w' ⟨rfl, rfl⟩) | (go_at_call 56; (with_reducible refine (iNormalAngle _ _ (by omega) (by omega)).mono ?_); rintro e w' ⟨rfl, rfl⟩))
  go_loop [12, 13] (fun x y => ∃ p q : Int, allOf d m ≤ p ∧ p ≤ q ∧ q ≤ allOf d m + 172800000 ∧ x = .int .i64 p ∧ y = .int .i64 q ∧ G ≤ turned q ∧ NotYet (allOf d m) p G) (fun x y => (intOf y - intOf x).toNat)
  case atStart => exact ⟨_, _, by omega, by omega, by omega, rfl, rfl, by omega, NY⟩
  case round =>
    obtain ⟨p, q, h1, h2, h3, rfl, rfl, h4, h5⟩ := hrel
    have N := Lib.hid h5
    clear h5 NY
    by_cases hlt : p < q
    · by_cases hg : G ≤ turned ((p + q) / 2)
      · go_wp2_with (go_at_call 81; (with_reducible refine (iTurned _ _ (by omega) (by omega)).mono ?_); rintro e w' ⟨rfl, rfl⟩)
        go_round
        case rel => exact ⟨p, (p + q) / 2, by omega, by omega, by omega, rfl, rfl, hg, N.out⟩
        case measure => simp [intOf]; omega
      · go_wp2_with (go_at_call 81; (with_reducible refine (iTurned _ _ (by omega) (by omega)).mono ?_); rintro e w' ⟨rfl, rfl⟩)
        go_round
        case rel => exact ⟨(p + q) / 2 + 1, q, by omega, by omega, by omega, rfl, rfl, h4, N.out.step (by omega)⟩
        case measure => simp [intOf]; omega
    · obtain rfl : p = q := by omega
      have hk := K.out p (N.out.isNext h1 h4)
      by_cases hp : p < 8640000000000
      · simp only [if_pos hp] at hk
        obtain ⟨rfl, rfl, rfl⟩ := hk
        clear K N
        go_wp2_with (go_at_call 82; (with_reducible refine (iMomentOf _ _ (by omega) (by omega)).mono ?_); rintro e w' ⟨rfl, hb⟩; have hs := hb.size; (try simp at hs); (try have hz : w.heap.size < w'.heap.size := by omega); (try have hy : w.heap.size < w'.heap.size + 1 := by omega); (try have hyy : w.heap.size < w'.heap.size + 1 + 1 := by omega); (try have hz1 : w.heap.size + 1 < w'.heap.size := by omega); (try have hn : ¬ w'.heap.size = w.heap.size := by omega); (try have hn1 : ¬ w'.heap.size = w.heap.size + 1 := by omega); (try have hz2 : w.heap.size + 1 + 1 < w'.heap.size := by omega); (try have hq := Nat.lt_of_lt_of_le (by assumption) hs); (try have hq := Nat.lt_of_succ_le hs); obtain ⟨hc, hf⟩ := bcell hb; (try simp only [World.size_drew, World.cell?_drew, World.frozen?_drew, World.heap_drewN, World.cell?_drewN, World.frozen?_drewN] at hc hf))
        exact bodyPost_ret (v := .tuple #[.agg #[.int .i64 (p / 86400000), .int .i64 (p % 86400000)], .int .i64 0]) (by simp [results, Tryd.results44, go_sem, *]) rfl ⟨rfl, by (repeat (first | exact Below.refl _ _ | assumption | (refine Below.drewN ?_ _) | (refine Below.drew ?_) | (refine Below.alloc ?_ (by first | (simp; done) | (simp; omega) | omega) _) | (refine Below.setCell ?_ (by first | (simp; done) | (simp; omega) | omega) _) | (refine Below.trans ?_ (Below.mono (by assumption) (by first | (simp; done) | (simp; omega) | omega)))))⟩
      · simp only [if_neg hp] at hk
        obtain ⟨rfl, rfl, rfl⟩ := hk
        clear K N
        go_wp2_with (go_at_call 82; (with_reducible refine (iMomentOf _ _ (by omega) (by omega)).mono ?_); rintro e w' ⟨rfl, hb⟩; have hs := hb.size; (try simp at hs); (try have hz : w.heap.size < w'.heap.size := by omega); (try have hy : w.heap.size < w'.heap.size + 1 := by omega); (try have hyy : w.heap.size < w'.heap.size + 1 + 1 := by omega); (try have hz1 : w.heap.size + 1 < w'.heap.size := by omega); (try have hn : ¬ w'.heap.size = w.heap.size := by omega); (try have hn1 : ¬ w'.heap.size = w.heap.size + 1 := by omega); (try have hz2 : w.heap.size + 1 + 1 < w'.heap.size := by omega); (try have hq := Nat.lt_of_lt_of_le (by assumption) hs); (try have hq := Nat.lt_of_succ_le hs); obtain ⟨hc, hf⟩ := bcell hb; (try simp only [World.size_drew, World.cell?_drew, World.frozen?_drew, World.heap_drewN, World.cell?_drewN, World.frozen?_drewN] at hc hf))
        exact bodyPost_ret (v := .tuple #[.agg #[.int .i64 0, .int .i64 0], .int .i64 6]) (by simp [results, Tryd.results44, go_sem, *]) rfl ⟨rfl, by (repeat (first | exact Below.refl _ _ | assumption | (refine Below.drewN ?_ _) | (refine Below.drew ?_) | (refine Below.alloc ?_ (by first | (simp; done) | (simp; omega) | omega) _) | (refine Below.setCell ?_ (by first | (simp; done) | (simp; omega) | omega) _) | (refine Below.trans ?_ (Below.mono (by assumption) (by first | (simp; done) | (simp; omega) | omega)))))⟩
end Go.Proofs.YtgeipijifcebmaaDoor
