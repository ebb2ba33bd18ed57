/-
  Contracts of the turns around the axes.
-/
import Derived.Test.YtconhjidpoimaaaDoorDir
import Derived.Test.YtconhjidpoimaaaDoorQt
namespace Go.Proofs.YtconhjidpoimaaaDoor
set_option linter.unusedVariables false
set_option linter.unusedSimpArgs false
open Go.RowKit
attribute [local go_sem ↓] Go.wp_at_zero Go.wp_at_succ
attribute [local go_sem] nn_e2 nn_e3 nn_e4 nn_f2 nn_f3 nn_f4 nn_l2 nn_l3 nn_l4 nn_m3 nn_m4 nn_k4

theorem mul_okR {a b : Int} (h1 : -2000000 ≤ a) (h2 : a ≤ 2000000) (h3 : -1000000 ≤ b) (h4 : b ≤ 1000000) : -2000000000000 ≤ a * b ∧ a * b ≤ 2000000000000 := by
  have := mul_bd2 h1 h2 h3 h4 (by omega) (by omega)
  omega
def rtX (a g x y z : Int) : Int := if a = 1 then x else if a = 2 then divR (x * cosI g + z * sinI g) 1000000 else divR (x * cosI g - y * sinI g) 1000000
def rtY (a g x y z : Int) : Int := if a = 1 then divR (y * cosI g - z * sinI g) 1000000 else if a = 2 then y else divR (x * sinI g + y * cosI g) 1000000
def rtZ (a g x y z : Int) : Int := if a = 1 then divR (y * sinI g + z * cosI g) 1000000 else if a = 2 then divR (z * cosI g - x * sinI g) 1000000 else z
theorem rt_1 (g x y z : Int) : rtX 1 g x y z = x ∧ rtY 1 g x y z = divR (y * cosI g - z * sinI g) 1000000 ∧ rtZ 1 g x y z = divR (y * sinI g + z * cosI g) 1000000 := ⟨rfl, rfl, rfl⟩
theorem rt_2 (g x y z : Int) : rtX 2 g x y z = divR (x * cosI g + z * sinI g) 1000000 ∧ rtY 2 g x y z = y ∧ rtZ 2 g x y z = divR (z * cosI g - x * sinI g) 1000000 := ⟨rfl, rfl, rfl⟩
theorem rt_3 (g x y z : Int) : rtX 3 g x y z = divR (x * cosI g - y * sinI g) 1000000 ∧ rtY 3 g x y z = divR (x * sinI g + y * cosI g) 1000000 ∧ rtZ 3 g x y z = z := ⟨rfl, rfl, rfl⟩
def roC (a g x y z : Int) : Int := if okV x y z then (if inB a 1 3 then chC (rtX a g x y z) (rtY a g x y z) (rtZ a g x y z) else 2) else 1
def roV (v a g x y z : Int) : Int := if okV x y z && inB a 1 3 then chV v (rtX a g x y z) (rtY a g x y z) (rtZ a g x y z) else 0
def roX (a g x y z : Int) : Int := roV (rtX a g x y z) a g x y z
def roY (a g x y z : Int) : Int := roV (rtY a g x y z) a g x y z
def roZ (a g x y z : Int) : Int := roV (rtZ a g x y z) a g x y z
def roRet (a g x y z : Int) : Value := .tuple #[.agg #[.int .i64 (roX a g x y z), .int .i64 (roY a g x y z), .int .i64 (roZ a g x y z)], .int .i64 (roC a g x y z)]
theorem ro_no {a g x y z k : Int} (h : (okV x y z && inB a 1 3) = false) (hk : roC a g x y z = k) : roRet a g x y z = .tuple #[.agg #[.int .i64 0, .int .i64 0, .int .i64 0], .int .i64 k] := by
  subst hk; simp [roRet, roX, roY, roZ, roV, h]
theorem ro_yes {a g x y z : Int} (h1 : okV x y z = true) (h2 : inB a 1 3 = true) : roRet a g x y z = .tuple #[.agg #[.int .i64 (chV (rtX a g x y z) (rtX a g x y z) (rtY a g x y z) (rtZ a g x y z)), .int .i64 (chV (rtY a g x y z) (rtX a g x y z) (rtY a g x y z) (rtZ a g x y z)), .int .i64 (chV (rtZ a g x y z) (rtX a g x y z) (rtY a g x y z) (rtZ a g x y z))], .int .i64 (chC (rtX a g x y z) (rtY a g x y z) (rtZ a g x y z))] := by
  simp [roRet, roX, roY, roZ, roV, roC, h1, h2]
set_option maxHeartbeats 8000000 in
theorem iRot (a g x y z : Int) (w : World) (h1 : -9223372036854775808 ≤ g) (h2 : g ≤ 9223372036854775807) (hS : SinesIn w) :
    Calls Tryd.prog 13 #[.agg #[.int .i64 x, .int .i64 y, .int .i64 z], .int .i64 a, .int .i64 g] w fun e w' => e = .returned (roRet a g x y z) ∧ Below w.heap.size w w' := by
  cases c1 : okV x y z
  · rw [ro_no (k := 1) (by rw [c1]; rfl) (by simp [roC, c1])]
    go_enter Tryd.func13, Tryd.ntmps13
    go_wp2_with (go_at_call 23; (with_reducible refine (iValidVector _ _ _ _).mono ?_); rintro e w' ⟨rfl, hb⟩; have hs := hb.size; (try simp at hs); (try have hz : w.heap.size < w'.heap.size := by omega); (try have hy : w.heap.size < w'.heap.size + 1 := by omega); (try have hyy : w.heap.size < w'.heap.size + 1 + 1 := by omega); (try have hz1 : w.heap.size + 1 < w'.heap.size := by omega); (try have hn : ¬ w'.heap.size = w.heap.size := by omega); (try have hn1 : ¬ w'.heap.size = w.heap.size + 1 := by omega); (try have hz2 : w.heap.size + 1 + 1 < w'.heap.size := by omega); (try have hq := Nat.lt_of_lt_of_le (by assumption) hs); (try have hq := Nat.lt_of_succ_le hs); obtain ⟨hc, hf⟩ := bcell hb; (try simp only [World.size_drew, World.cell?_drew, World.frozen?_drew, World.heap_drewN, World.cell?_drewN, World.frozen?_drewN] at hc hf))
    exact bodyPost_ret (v := .tuple #[.agg #[.int .i64 0, .int .i64 0, .int .i64 0], .int .i64 1]) (by simp [results, Tryd.results13, go_sem, *]) rfl ⟨rfl, by (repeat (first | exact Below.refl _ _ | assumption | (refine Below.drewN ?_ _) | (refine Below.drew ?_) | (refine Below.alloc ?_ (by first | (simp; done) | (simp; omega) | omega) _) | (refine Below.setCell ?_ (by first | (simp; done) | (simp; omega) | omega) _) | (refine Below.trans ?_ (Below.mono (by assumption) (by first | (simp; done) | (simp; omega) | omega)))))⟩
  obtain ⟨⟨x1, x2⟩, ⟨y1, y2⟩, z1, z2⟩ := okV_t c1
  obtain ⟨s1, s2⟩ := sinI_bd g
  obtain ⟨c1b, c2b⟩ := cosI_bd g
  have hS0 := fun o p => ((hS.alloc o).alloc p)
  cases c2 : inB a 1 3
  · rw [ro_no (k := 2) (by rw [c1, c2]; rfl) (by simp [roC, c1, c2])]
    have hn := inB_f c2
    have n1 : (a == 1) = false := by simp; omega
    have n2 : (a == 2) = false := by simp; omega
    have n3 : (a == 3) = false := by simp; omega
    go_enter Tryd.func13, Tryd.ntmps13
    go_wp2_with fail
    (with_reducible refine (iValidVector _ _ _ _).mono ?_)
    rintro e W1 ⟨rfl, hb1⟩
    have hs1 := hb1.size
    (try simp at hs1)
    obtain ⟨hc1, hf1⟩ := bcell hb1
    (try have hz0_1 : w.heap.size < W1.heap.size := by omega)
    (try have hy0_1 : w.heap.size + 1 < W1.heap.size := by omega)
    have hS1 := (hS0 _ _).below hb1
    go_wp2_with (first | (go_at_call 34; (with_reducible refine (iSineOf _ _ (by omega) (by omega) (by first | assumption | exact SinesIn.drewN (by assumption) _)).mono ?_); rintro e w' ⟨rfl, n, rfl⟩) | (go_at_call 35; (with_reducible refine (iCosineOf _ _ (by omega) (by omega) (by first | assumption | exact SinesIn.drewN (by assumption) _)).mono ?_); rintro e w' ⟨rfl, n, rfl⟩))
    exact bodyPost_ret (v := .tuple #[.agg #[.int .i64 0, .int .i64 0, .int .i64 0], .int .i64 2]) (by simp [results, Tryd.results13, go_sem, *]) rfl ⟨rfl, by (repeat (first | exact Below.refl _ _ | assumption | (refine Below.drewN ?_ _) | (refine Below.drew ?_) | (refine Below.alloc ?_ (by first | (simp; done) | (simp; omega) | omega) _) | (refine Below.setCell ?_ (by first | (simp; done) | (simp; omega) | omega) _) | (refine Below.trans ?_ (Below.mono (by assumption) (by first | (simp; done) | (simp; omega) | omega)))))⟩
  rw [ro_yes c1 c2]
  have hn := inB_t c2
  have ha : a = 1 ∨ a = 2 ∨ a = 3 := by omega
  rcases ha with rfl | rfl | rfl
  · obtain ⟨r1, r2, r3⟩ := rt_1 g x y z
    rw [r1, r2, r3]; clear r1 r2 r3
    have m1 := mul_okR y1 y2 c1b c2b
    have e1 : IntKind.i64.wrap (y * cosI g) = y * cosI g := IntWalk.i64_in _ (by omega)
    have m2 := mul_okR z1 z2 s1 s2
    have e2 : IntKind.i64.wrap (z * sinI g) = z * sinI g := IntWalk.i64_in _ (by omega)
    have m3 := mul_okR y1 y2 s1 s2
    have e3 : IntKind.i64.wrap (y * sinI g) = y * sinI g := IntWalk.i64_in _ (by omega)
    have m4 := mul_okR z1 z2 c1b c2b
    have e4 : IntKind.i64.wrap (z * cosI g) = z * cosI g := IntWalk.i64_in _ (by omega)
    have q0 : IntKind.i64.wrap (y * cosI g - z * sinI g) = y * cosI g - z * sinI g := IntWalk.i64_in _ (by omega)
    have q1 : IntKind.i64.wrap (y * sinI g + z * cosI g) = y * sinI g + z * cosI g := IntWalk.i64_in _ (by omega)
    go_enter Tryd.func13, Tryd.ntmps13
    go_wp2_with fail
    (with_reducible refine (iValidVector _ _ _ _).mono ?_)
    rintro e W1 ⟨rfl, hb1⟩
    have hs1 := hb1.size
    (try simp at hs1)
    obtain ⟨hc1, hf1⟩ := bcell hb1
    (try have hz0_1 : w.heap.size < W1.heap.size := by omega)
    (try have hy0_1 : w.heap.size + 1 < W1.heap.size := by omega)
    have hS1 := (hS0 _ _).below hb1
    go_wp2_with (first | (go_at_call 34; (with_reducible refine (iSineOf _ _ (by omega) (by omega) (by first | assumption | exact SinesIn.drewN (by assumption) _)).mono ?_); rintro e w' ⟨rfl, n, rfl⟩) | (go_at_call 35; (with_reducible refine (iCosineOf _ _ (by omega) (by omega) (by first | assumption | exact SinesIn.drewN (by assumption) _)).mono ?_); rintro e w' ⟨rfl, n, rfl⟩))
    refine region_quiet_store 23 _ rfl rfl (by kernel_rfl) (by kernel_rfl) (by kernel_rfl) (by kernel_rfl) rfl rfl ?_
    simp only [List.take_succ_cons, List.take_zero]
    repeat (go_big_quiet_step ((first | (go_at_call 36; exact quiet_add (iNearest _ _ _ (by omega) (by omega) (by omega) (by omega) (by omega))))))
    refine wpQuiet_nil ?_
    intro _ hw'
    obtain ⟨nq, hw''⟩ := hw'
    subst hw''
    go_wp2_with (go_at_call 37; (with_reducible refine (iChecked _ _ _ _).mono ?_); rintro e w' ⟨rfl, hb⟩; have hs := hb.size; (try simp at hs); (try have hz : w.heap.size < w'.heap.size := by omega); (try have hy : w.heap.size < w'.heap.size + 1 := by omega); (try have hyy : w.heap.size < w'.heap.size + 1 + 1 := by omega); (try have hz1 : w.heap.size + 1 < w'.heap.size := by omega); (try have hn : ¬ w'.heap.size = w.heap.size := by omega); (try have hn1 : ¬ w'.heap.size = w.heap.size + 1 := by omega); (try have hz2 : w.heap.size + 1 + 1 < w'.heap.size := by omega); (try have hq := Nat.lt_of_lt_of_le (by assumption) hs); (try have hq := Nat.lt_of_succ_le hs); obtain ⟨hc, hf⟩ := bcell hb; (try simp only [World.size_drew, World.cell?_drew, World.frozen?_drew, World.heap_drewN, World.cell?_drewN, World.frozen?_drewN] at hc hf))
    exact bodyPost_ret (v := .tuple #[.agg #[.int .i64 (chV x x (divR (y * cosI g - z * sinI g) 1000000) (divR (y * sinI g + z * cosI g) 1000000)), .int .i64 (chV (divR (y * cosI g - z * sinI g) 1000000) x (divR (y * cosI g - z * sinI g) 1000000) (divR (y * sinI g + z * cosI g) 1000000)), .int .i64 (chV (divR (y * sinI g + z * cosI g) 1000000) x (divR (y * cosI g - z * sinI g) 1000000) (divR (y * sinI g + z * cosI g) 1000000))], .int .i64 (chC x (divR (y * cosI g - z * sinI g) 1000000) (divR (y * sinI g + z * cosI g) 1000000))]) (by simp [results, Tryd.results13, go_sem, *]) rfl ⟨rfl, by (repeat (first | exact Below.refl _ _ | assumption | (refine Below.drewN ?_ _) | (refine Below.drew ?_) | (refine Below.alloc ?_ (by first | (simp; done) | (simp; omega) | omega) _) | (refine Below.setCell ?_ (by first | (simp; done) | (simp; omega) | omega) _) | (refine Below.trans ?_ (Below.mono (by assumption) (by first | (simp; done) | (simp; omega) | omega)))))⟩
  · obtain ⟨r1, r2, r3⟩ := rt_2 g x y z
    rw [r1, r2, r3]; clear r1 r2 r3
    have m1 := mul_okR x1 x2 c1b c2b
    have e1 : IntKind.i64.wrap (x * cosI g) = x * cosI g := IntWalk.i64_in _ (by omega)
    have m2 := mul_okR z1 z2 s1 s2
    have e2 : IntKind.i64.wrap (z * sinI g) = z * sinI g := IntWalk.i64_in _ (by omega)
    have m3 := mul_okR z1 z2 c1b c2b
    have e3 : IntKind.i64.wrap (z * cosI g) = z * cosI g := IntWalk.i64_in _ (by omega)
    have m4 := mul_okR x1 x2 s1 s2
    have e4 : IntKind.i64.wrap (x * sinI g) = x * sinI g := IntWalk.i64_in _ (by omega)
    have q0 : IntKind.i64.wrap (x * cosI g + z * sinI g) = x * cosI g + z * sinI g := IntWalk.i64_in _ (by omega)
    have q1 : IntKind.i64.wrap (z * cosI g - x * sinI g) = z * cosI g - x * sinI g := IntWalk.i64_in _ (by omega)
    go_enter Tryd.func13, Tryd.ntmps13
    go_wp2_with fail
    (with_reducible refine (iValidVector _ _ _ _).mono ?_)
    rintro e W1 ⟨rfl, hb1⟩
    have hs1 := hb1.size
    (try simp at hs1)
    obtain ⟨hc1, hf1⟩ := bcell hb1
    (try have hz0_1 : w.heap.size < W1.heap.size := by omega)
    (try have hy0_1 : w.heap.size + 1 < W1.heap.size := by omega)
    have hS1 := (hS0 _ _).below hb1
    go_wp2_with (first | (go_at_call 34; (with_reducible refine (iSineOf _ _ (by omega) (by omega) (by first | assumption | exact SinesIn.drewN (by assumption) _)).mono ?_); rintro e w' ⟨rfl, n, rfl⟩) | (go_at_call 35; (with_reducible refine (iCosineOf _ _ (by omega) (by omega) (by first | assumption | exact SinesIn.drewN (by assumption) _)).mono ?_); rintro e w' ⟨rfl, n, rfl⟩))
    refine region_quiet_store 23 _ rfl rfl (by kernel_rfl) (by kernel_rfl) (by kernel_rfl) (by kernel_rfl) rfl rfl ?_
    simp only [List.take_succ_cons, List.take_zero]
    repeat (go_big_quiet_step ((first | (go_at_call 36; exact quiet_add (iNearest _ _ _ (by omega) (by omega) (by omega) (by omega) (by omega))))))
    refine wpQuiet_nil ?_
    intro _ hw'
    obtain ⟨nq, hw''⟩ := hw'
    subst hw''
    go_wp2_with (go_at_call 37; (with_reducible refine (iChecked _ _ _ _).mono ?_); rintro e w' ⟨rfl, hb⟩; have hs := hb.size; (try simp at hs); (try have hz : w.heap.size < w'.heap.size := by omega); (try have hy : w.heap.size < w'.heap.size + 1 := by omega); (try have hyy : w.heap.size < w'.heap.size + 1 + 1 := by omega); (try have hz1 : w.heap.size + 1 < w'.heap.size := by omega); (try have hn : ¬ w'.heap.size = w.heap.size := by omega); (try have hn1 : ¬ w'.heap.size = w.heap.size + 1 := by omega); (try have hz2 : w.heap.size + 1 + 1 < w'.heap.size := by omega); (try have hq := Nat.lt_of_lt_of_le (by assumption) hs); (try have hq := Nat.lt_of_succ_le hs); obtain ⟨hc, hf⟩ := bcell hb; (try simp only [World.size_drew, World.cell?_drew, World.frozen?_drew, World.heap_drewN, World.cell?_drewN, World.frozen?_drewN] at hc hf))
    exact bodyPost_ret (v := .tuple #[.agg #[.int .i64 (chV (divR (x * cosI g + z * sinI g) 1000000) (divR (x * cosI g + z * sinI g) 1000000) y (divR (z * cosI g - x * sinI g) 1000000)), .int .i64 (chV y (divR (x * cosI g + z * sinI g) 1000000) y (divR (z * cosI g - x * sinI g) 1000000)), .int .i64 (chV (divR (z * cosI g - x * sinI g) 1000000) (divR (x * cosI g + z * sinI g) 1000000) y (divR (z * cosI g - x * sinI g) 1000000))], .int .i64 (chC (divR (x * cosI g + z * sinI g) 1000000) y (divR (z * cosI g - x * sinI g) 1000000))]) (by simp [results, Tryd.results13, go_sem, *]) rfl ⟨rfl, by (repeat (first | exact Below.refl _ _ | assumption | (refine Below.drewN ?_ _) | (refine Below.drew ?_) | (refine Below.alloc ?_ (by first | (simp; done) | (simp; omega) | omega) _) | (refine Below.setCell ?_ (by first | (simp; done) | (simp; omega) | omega) _) | (refine Below.trans ?_ (Below.mono (by assumption) (by first | (simp; done) | (simp; omega) | omega)))))⟩
  · obtain ⟨r1, r2, r3⟩ := rt_3 g x y z
    rw [r1, r2, r3]; clear r1 r2 r3
    have m1 := mul_okR x1 x2 c1b c2b
    have e1 : IntKind.i64.wrap (x * cosI g) = x * cosI g := IntWalk.i64_in _ (by omega)
    have m2 := mul_okR y1 y2 s1 s2
    have e2 : IntKind.i64.wrap (y * sinI g) = y * sinI g := IntWalk.i64_in _ (by omega)
    have m3 := mul_okR x1 x2 s1 s2
    have e3 : IntKind.i64.wrap (x * sinI g) = x * sinI g := IntWalk.i64_in _ (by omega)
    have m4 := mul_okR y1 y2 c1b c2b
    have e4 : IntKind.i64.wrap (y * cosI g) = y * cosI g := IntWalk.i64_in _ (by omega)
    have q0 : IntKind.i64.wrap (x * cosI g - y * sinI g) = x * cosI g - y * sinI g := IntWalk.i64_in _ (by omega)
    have q1 : IntKind.i64.wrap (x * sinI g + y * cosI g) = x * sinI g + y * cosI g := IntWalk.i64_in _ (by omega)
    go_enter Tryd.func13, Tryd.ntmps13
    go_wp2_with fail
    (with_reducible refine (iValidVector _ _ _ _).mono ?_)
    rintro e W1 ⟨rfl, hb1⟩
    have hs1 := hb1.size
    (try simp at hs1)
    obtain ⟨hc1, hf1⟩ := bcell hb1
    (try have hz0_1 : w.heap.size < W1.heap.size := by omega)
    (try have hy0_1 : w.heap.size + 1 < W1.heap.size := by omega)
    have hS1 := (hS0 _ _).below hb1
    go_wp2_with (first | (go_at_call 34; (with_reducible refine (iSineOf _ _ (by omega) (by omega) (by first | assumption | exact SinesIn.drewN (by assumption) _)).mono ?_); rintro e w' ⟨rfl, n, rfl⟩) | (go_at_call 35; (with_reducible refine (iCosineOf _ _ (by omega) (by omega) (by first | assumption | exact SinesIn.drewN (by assumption) _)).mono ?_); rintro e w' ⟨rfl, n, rfl⟩))
    refine region_quiet_store 23 _ rfl rfl (by kernel_rfl) (by kernel_rfl) (by kernel_rfl) (by kernel_rfl) rfl rfl ?_
    simp only [List.take_succ_cons, List.take_zero]
    repeat (go_big_quiet_step ((first | (go_at_call 36; exact quiet_add (iNearest _ _ _ (by omega) (by omega) (by omega) (by omega) (by omega))))))
    refine wpQuiet_nil ?_
    intro _ hw'
    obtain ⟨nq, hw''⟩ := hw'
    subst hw''
    go_wp2_with (go_at_call 37; (with_reducible refine (iChecked _ _ _ _).mono ?_); rintro e w' ⟨rfl, hb⟩; have hs := hb.size; (try simp at hs); (try have hz : w.heap.size < w'.heap.size := by omega); (try have hy : w.heap.size < w'.heap.size + 1 := by omega); (try have hyy : w.heap.size < w'.heap.size + 1 + 1 := by omega); (try have hz1 : w.heap.size + 1 < w'.heap.size := by omega); (try have hn : ¬ w'.heap.size = w.heap.size := by omega); (try have hn1 : ¬ w'.heap.size = w.heap.size + 1 := by omega); (try have hz2 : w.heap.size + 1 + 1 < w'.heap.size := by omega); (try have hq := Nat.lt_of_lt_of_le (by assumption) hs); (try have hq := Nat.lt_of_succ_le hs); obtain ⟨hc, hf⟩ := bcell hb; (try simp only [World.size_drew, World.cell?_drew, World.frozen?_drew, World.heap_drewN, World.cell?_drewN, World.frozen?_drewN] at hc hf))
    exact bodyPost_ret (v := .tuple #[.agg #[.int .i64 (chV (divR (x * cosI g - y * sinI g) 1000000) (divR (x * cosI g - y * sinI g) 1000000) (divR (x * sinI g + y * cosI g) 1000000) z), .int .i64 (chV (divR (x * sinI g + y * cosI g) 1000000) (divR (x * cosI g - y * sinI g) 1000000) (divR (x * sinI g + y * cosI g) 1000000) z), .int .i64 (chV z (divR (x * cosI g - y * sinI g) 1000000) (divR (x * sinI g + y * cosI g) 1000000) z)], .int .i64 (chC (divR (x * cosI g - y * sinI g) 1000000) (divR (x * sinI g + y * cosI g) 1000000) z)]) (by simp [results, Tryd.results13, go_sem, *]) rfl ⟨rfl, by (repeat (first | exact Below.refl _ _ | assumption | (refine Below.drewN ?_ _) | (refine Below.drew ?_) | (refine Below.alloc ?_ (by first | (simp; done) | (simp; omega) | omega) _) | (refine Below.setCell ?_ (by first | (simp; done) | (simp; omega) | omega) _) | (refine Below.trans ?_ (Below.mono (by assumption) (by first | (simp; done) | (simp; omega) | omega)))))⟩
theorem iRotE (a g x y z : Int) (w : World) (h1 : -9223372036854775808 ≤ g) (h2 : g ≤ 9223372036854775807) (hS : SinesIn w) :
    Calls Tryd.prog 13 #[.agg #[.int .i64 x, .int .i64 y, .int .i64 z], .int .i64 a, .int .i64 g] w fun e w' => e = .returned (.tuple #[.agg #[.int .i64 (roX a g x y z), .int .i64 (roY a g x y z), .int .i64 (roZ a g x y z)], .int .i64 (roC a g x y z)]) ∧ Below w.heap.size w w' := iRot a g x y z w h1 h2 hS
end Go.Proofs.YtconhjidpoimaaaDoor
