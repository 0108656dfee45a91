/- Sums, differences and products of the reference of layer 25, and the small functions beside them. -/
import Derived.Test.YtdjdjbopddkndaaProg
import Derived.Below
import Derived.Deep.Draws
import Derived.OwnWalk
import Derived.Tactics
import Derived.WalkKit
import Derived.KernelRfl
import Derived.Deep.LoopGhost
import Derived.Deep.QuietTactic
import Derived.BigQuiet
import Derived.Deep.DeepCutAuto
import Derived.Deep.RegionHeld3
import Derived.StillTailTactics
import Derived.WalkLawsBesides
import Derived.Lib.Hide
import Derived.Outline
import Derived.BigRegion
import Derived.Test.YtdjdjbopddkndaaMath
import Derived.Test.YtdjdjbopddkndaaLib
import Derived.Test.YtdjdjbopddkndaaCx1
import Derived.Test.YtdjdjbopddkndaaCx4
import Derived.Test.YtdjdjbopddkndaaCxM2
namespace Go.Proofs.Ytdjdjbopddkndaa.A
open Go.RowKit Go.BigFrame Go.Proofs.Ytdjdjbopddkndaa.M
set_option linter.unusedVariables false
set_option linter.unusedSimpArgs false

set_option maxHeartbeats 4000000 in
theorem radd_any (a b : Cx) (w : World) :
    Calls Try.prog 6 #[.agg #[.int .i64 (a).re, .int .i64 (a).im, .int .i64 (a).den], .agg #[.int .i64 (b).re, .int .i64 (b).im, .int .i64 (b).den]] w fun e w' => e = .returned (.tuple #[.agg #[.int .i64 ((Cx.add a b).1).re, .int .i64 ((Cx.add a b).1).im, .int .i64 ((Cx.add a b).1).den], .int .i64 (Cx.add a b).2]) ∧ Below w.heap.size w w' := by
  obtain ⟨R, HR⟩ : ∃ R, Hid (Cx.add a b = R) := ⟨_, Lib.hid rfl⟩
  rw [HR.out]
  by_cases hok : (a.ok && b.ok) = true
  · have HB : Hid (Cx.both a b = 0) := Lib.hid (by unfold Cx.both; rw [if_pos hok])
    have hR := HR.out
    unfold Cx.add at hR
    rw [if_pos hok] at hR
    simp only [Bool.and_eq_true] at hok
    obtain ⟨ha, hb⟩ := hok
    have ba := Cx.bounds ha
    have bb := Cx.bounds hb
    obtain ⟨p1, p2⟩ := mul_bd (x := a.re) (y := b.den) 1000000000 1000000000 (by omega) (by omega) (by omega) (by omega)
    obtain ⟨p3, p4⟩ := mul_bd (x := b.re) (y := a.den) 1000000000 1000000000 (by omega) (by omega) (by omega) (by omega)
    obtain ⟨p5, p6⟩ := mul_bd (x := a.im) (y := b.den) 1000000000 1000000000 (by omega) (by omega) (by omega) (by omega)
    obtain ⟨p7, p8⟩ := mul_bd (x := b.im) (y := a.den) 1000000000 1000000000 (by omega) (by omega) (by omega) (by omega)
    obtain ⟨p9, p10⟩ := mul_bd (x := a.den) (y := b.den) 1000000000 1000000000 (by omega) (by omega) (by omega) (by omega)
    have p11 : 0 < a.den * b.den := Int.mul_pos (by omega) (by omega)
    simp only [Int.reduceMul, Int.reduceNeg] at p1 p2 p3 p4 p5 p6 p7 p8 p9 p10
    clear ha hb
    have HRed := Lib.hid hR
    clear hR
    go_enter Try.func6, Try.ntmps6
    go_wp2_with fail
    refine (rboth_any a b _).mono ?_; rintro e1 w1 ⟨rfl, hb1⟩; obtain ⟨hc1, hf1⟩ := bcell hb1; have hs1 := hb1.size; (try simp at hs1); (try have z1_w_0 : w.heap.size < w1.heap.size := (by omega)); (try have y1_w_0 : w.heap.size ≤ w1.heap.size := (by omega)); (try have z1_w_1 : w.heap.size + 1 < w1.heap.size := (by omega)); (try have y1_w_1 : w.heap.size + 1 ≤ w1.heap.size := (by omega)); (try have z1_w_2 : w.heap.size + 2 < w1.heap.size := (by omega)); (try have y1_w_2 : w.heap.size + 2 ≤ w1.heap.size := (by omega))
    have k1_a0 : w1.cell? ⟨w.heap.size, 0, none⟩ = some (.int .i64 a.re) := carry hb1 (by go_simp); (try have f1_a0 : w1.frozen? ⟨w.heap.size, 0, none⟩ = false := carryf hb1 (v := .int .i64 a.re) (by go_simp) (by go_simp)); have k1_a1 : w1.cell? ⟨w.heap.size, 1, none⟩ = some (.int .i64 a.im) := carry hb1 (by go_simp); (try have f1_a1 : w1.frozen? ⟨w.heap.size, 1, none⟩ = false := carryf hb1 (v := .int .i64 a.im) (by go_simp) (by go_simp)); have k1_a2 : w1.cell? ⟨w.heap.size, 2, none⟩ = some (.int .i64 a.den) := carry hb1 (by go_simp); (try have f1_a2 : w1.frozen? ⟨w.heap.size, 2, none⟩ = false := carryf hb1 (v := .int .i64 a.den) (by go_simp) (by go_simp)); have k1_b0 : w1.cell? ⟨w.heap.size + 1, 0, none⟩ = some (.int .i64 b.re) := carry hb1 (by go_simp); (try have f1_b0 : w1.frozen? ⟨w.heap.size + 1, 0, none⟩ = false := carryf hb1 (v := .int .i64 b.re) (by go_simp) (by go_simp)); have k1_b1 : w1.cell? ⟨w.heap.size + 1, 1, none⟩ = some (.int .i64 b.im) := carry hb1 (by go_simp); (try have f1_b1 : w1.frozen? ⟨w.heap.size + 1, 1, none⟩ = false := carryf hb1 (v := .int .i64 b.im) (by go_simp) (by go_simp)); have k1_b2 : w1.cell? ⟨w.heap.size + 1, 2, none⟩ = some (.int .i64 b.den) := carry hb1 (by go_simp); (try have f1_b2 : w1.frozen? ⟨w.heap.size + 1, 2, none⟩ = false := carryf hb1 (v := .int .i64 b.den) (by go_simp) (by go_simp)); have k1_r0 : w1.cell? ⟨w.heap.size + 2, 0, none⟩ = some (.int .i64 0) := carry hb1 (by go_simp); (try have f1_r0 : w1.frozen? ⟨w.heap.size + 2, 0, none⟩ = false := carryf hb1 (v := .int .i64 0) (by go_simp) (by go_simp)); have k1_r1 : w1.cell? ⟨w.heap.size + 2, 1, none⟩ = some (.int .i64 0) := carry hb1 (by go_simp); (try have f1_r1 : w1.frozen? ⟨w.heap.size + 2, 1, none⟩ = false := carryf hb1 (v := .int .i64 0) (by go_simp) (by go_simp)); have k1_r2 : w1.cell? ⟨w.heap.size + 2, 2, none⟩ = some (.int .i64 0) := carry hb1 (by go_simp); (try have f1_r2 : w1.frozen? ⟨w.heap.size + 2, 2, none⟩ = false := carryf hb1 (v := .int .i64 0) (by go_simp) (by go_simp))
    rw [HB.out]
    go_wp2_with fail
    refine (rmade_any _ _ _ (by omega) (by omega) (by omega) (by omega) _).mono ?_; rintro e2 w2 ⟨rfl, hb2⟩; obtain ⟨hc2, hf2⟩ := bcell hb2; have hs2 := hb2.size; (try simp at hs2); (try have z2_w_0 : w.heap.size < w2.heap.size := (by omega)); (try have y2_w_0 : w.heap.size ≤ w2.heap.size := (by omega)); (try have z2_w_1 : w.heap.size + 1 < w2.heap.size := (by omega)); (try have y2_w_1 : w.heap.size + 1 ≤ w2.heap.size := (by omega)); (try have z2_w_2 : w.heap.size + 2 < w2.heap.size := (by omega)); (try have y2_w_2 : w.heap.size + 2 ≤ w2.heap.size := (by omega))
    have k2_a0 : w2.cell? ⟨w.heap.size, 0, none⟩ = some (.int .i64 a.re) := carry hb2 (by go_simp); (try have f2_a0 : w2.frozen? ⟨w.heap.size, 0, none⟩ = false := carryf hb2 (v := .int .i64 a.re) (by go_simp) (by go_simp)); have k2_a1 : w2.cell? ⟨w.heap.size, 1, none⟩ = some (.int .i64 a.im) := carry hb2 (by go_simp); (try have f2_a1 : w2.frozen? ⟨w.heap.size, 1, none⟩ = false := carryf hb2 (v := .int .i64 a.im) (by go_simp) (by go_simp)); have k2_a2 : w2.cell? ⟨w.heap.size, 2, none⟩ = some (.int .i64 a.den) := carry hb2 (by go_simp); (try have f2_a2 : w2.frozen? ⟨w.heap.size, 2, none⟩ = false := carryf hb2 (v := .int .i64 a.den) (by go_simp) (by go_simp)); have k2_b0 : w2.cell? ⟨w.heap.size + 1, 0, none⟩ = some (.int .i64 b.re) := carry hb2 (by go_simp); (try have f2_b0 : w2.frozen? ⟨w.heap.size + 1, 0, none⟩ = false := carryf hb2 (v := .int .i64 b.re) (by go_simp) (by go_simp)); have k2_b1 : w2.cell? ⟨w.heap.size + 1, 1, none⟩ = some (.int .i64 b.im) := carry hb2 (by go_simp); (try have f2_b1 : w2.frozen? ⟨w.heap.size + 1, 1, none⟩ = false := carryf hb2 (v := .int .i64 b.im) (by go_simp) (by go_simp)); have k2_b2 : w2.cell? ⟨w.heap.size + 1, 2, none⟩ = some (.int .i64 b.den) := carry hb2 (by go_simp); (try have f2_b2 : w2.frozen? ⟨w.heap.size + 1, 2, none⟩ = false := carryf hb2 (v := .int .i64 b.den) (by go_simp) (by go_simp)); have k2_r0 : w2.cell? ⟨w.heap.size + 2, 0, none⟩ = some (.int .i64 0) := carry hb2 (by go_simp); (try have f2_r0 : w2.frozen? ⟨w.heap.size + 2, 0, none⟩ = false := carryf hb2 (v := .int .i64 0) (by go_simp) (by go_simp)); have k2_r1 : w2.cell? ⟨w.heap.size + 2, 1, none⟩ = some (.int .i64 0) := carry hb2 (by go_simp); (try have f2_r1 : w2.frozen? ⟨w.heap.size + 2, 1, none⟩ = false := carryf hb2 (v := .int .i64 0) (by go_simp) (by go_simp)); have k2_r2 : w2.cell? ⟨w.heap.size + 2, 2, none⟩ = some (.int .i64 0) := carry hb2 (by go_simp); (try have f2_r2 : w2.frozen? ⟨w.heap.size + 2, 2, none⟩ = false := carryf hb2 (v := .int .i64 0) (by go_simp) (by go_simp))
    rw [HRed.out]
    go_wp2_with fail
    exact bodyPost_ret (v := .tuple #[.agg #[.int .i64 (R.1).re, .int .i64 (R.1).im, .int .i64 (R.1).den], .int .i64 R.2]) (by simp only [results, Try.results6]; go_simp) rfl ⟨rfl, by repeat (first | exact Below.refl _ _ | (refine b_set ?_ (by omega) _) | (refine b_alloc ?_ _) | (refine b_drew ?_) | (refine b_drewN ?_ _) | (refine b_then ?_ (by assumption)))⟩
  · have HB : Hid (Cx.both a b = 8) := Lib.hid (by unfold Cx.both; rw [if_neg hok])
    have hR := HR.out
    unfold Cx.add at hR
    rw [if_neg hok] at hR
    subst hR
    clear hok
    go_enter Try.func6, Try.ntmps6
    go_wp2_with fail
    refine (rboth_any a b _).mono ?_; rintro e1 w1 ⟨rfl, hb1⟩; obtain ⟨hc1, hf1⟩ := bcell hb1; have hs1 := hb1.size; (try simp at hs1); (try have z1_w_0 : w.heap.size < w1.heap.size := (by omega)); (try have y1_w_0 : w.heap.size ≤ w1.heap.size := (by omega)); (try have z1_w_1 : w.heap.size + 1 < w1.heap.size := (by omega)); (try have y1_w_1 : w.heap.size + 1 ≤ w1.heap.size := (by omega)); (try have z1_w_2 : w.heap.size + 2 < w1.heap.size := (by omega)); (try have y1_w_2 : w.heap.size + 2 ≤ w1.heap.size := (by omega))
    have k1_a0 : w1.cell? ⟨w.heap.size, 0, none⟩ = some (.int .i64 a.re) := carry hb1 (by go_simp); (try have f1_a0 : w1.frozen? ⟨w.heap.size, 0, none⟩ = false := carryf hb1 (v := .int .i64 a.re) (by go_simp) (by go_simp)); have k1_a1 : w1.cell? ⟨w.heap.size, 1, none⟩ = some (.int .i64 a.im) := carry hb1 (by go_simp); (try have f1_a1 : w1.frozen? ⟨w.heap.size, 1, none⟩ = false := carryf hb1 (v := .int .i64 a.im) (by go_simp) (by go_simp)); have k1_a2 : w1.cell? ⟨w.heap.size, 2, none⟩ = some (.int .i64 a.den) := carry hb1 (by go_simp); (try have f1_a2 : w1.frozen? ⟨w.heap.size, 2, none⟩ = false := carryf hb1 (v := .int .i64 a.den) (by go_simp) (by go_simp)); have k1_b0 : w1.cell? ⟨w.heap.size + 1, 0, none⟩ = some (.int .i64 b.re) := carry hb1 (by go_simp); (try have f1_b0 : w1.frozen? ⟨w.heap.size + 1, 0, none⟩ = false := carryf hb1 (v := .int .i64 b.re) (by go_simp) (by go_simp)); have k1_b1 : w1.cell? ⟨w.heap.size + 1, 1, none⟩ = some (.int .i64 b.im) := carry hb1 (by go_simp); (try have f1_b1 : w1.frozen? ⟨w.heap.size + 1, 1, none⟩ = false := carryf hb1 (v := .int .i64 b.im) (by go_simp) (by go_simp)); have k1_b2 : w1.cell? ⟨w.heap.size + 1, 2, none⟩ = some (.int .i64 b.den) := carry hb1 (by go_simp); (try have f1_b2 : w1.frozen? ⟨w.heap.size + 1, 2, none⟩ = false := carryf hb1 (v := .int .i64 b.den) (by go_simp) (by go_simp)); have k1_r0 : w1.cell? ⟨w.heap.size + 2, 0, none⟩ = some (.int .i64 0) := carry hb1 (by go_simp); (try have f1_r0 : w1.frozen? ⟨w.heap.size + 2, 0, none⟩ = false := carryf hb1 (v := .int .i64 0) (by go_simp) (by go_simp)); have k1_r1 : w1.cell? ⟨w.heap.size + 2, 1, none⟩ = some (.int .i64 0) := carry hb1 (by go_simp); (try have f1_r1 : w1.frozen? ⟨w.heap.size + 2, 1, none⟩ = false := carryf hb1 (v := .int .i64 0) (by go_simp) (by go_simp)); have k1_r2 : w1.cell? ⟨w.heap.size + 2, 2, none⟩ = some (.int .i64 0) := carry hb1 (by go_simp); (try have f1_r2 : w1.frozen? ⟨w.heap.size + 2, 2, none⟩ = false := carryf hb1 (v := .int .i64 0) (by go_simp) (by go_simp))
    rw [HB.out]
    go_wp2_with fail
    exact bodyPost_ret (v := .tuple #[.agg #[.int .i64 0, .int .i64 0, .int .i64 0], .int .i64 8]) (by simp only [results, Try.results6]; go_simp) rfl ⟨rfl, by repeat (first | exact Below.refl _ _ | (refine b_set ?_ (by omega) _) | (refine b_alloc ?_ _) | (refine b_drew ?_) | (refine b_drewN ?_ _) | (refine b_then ?_ (by assumption)))⟩

set_option maxHeartbeats 4000000 in
theorem rmul_any (a b : Cx) (w : World) :
    Calls Try.prog 10 #[.agg #[.int .i64 (a).re, .int .i64 (a).im, .int .i64 (a).den], .agg #[.int .i64 (b).re, .int .i64 (b).im, .int .i64 (b).den]] w fun e w' => e = .returned (.tuple #[.agg #[.int .i64 ((Cx.mul a b).1).re, .int .i64 ((Cx.mul a b).1).im, .int .i64 ((Cx.mul a b).1).den], .int .i64 (Cx.mul a b).2]) ∧ Below w.heap.size w w' := by
  obtain ⟨R, HR⟩ : ∃ R, Hid (Cx.mul a b = R) := ⟨_, Lib.hid rfl⟩
  rw [HR.out]
  by_cases hok : (a.ok && b.ok) = true
  · have HB : Hid (Cx.both a b = 0) := Lib.hid (by unfold Cx.both; rw [if_pos hok])
    have hR := HR.out
    unfold Cx.mul at hR
    rw [if_pos hok] at hR
    simp only [Bool.and_eq_true] at hok
    obtain ⟨ha, hb⟩ := hok
    have ba := Cx.bounds ha
    have bb := Cx.bounds hb
    obtain ⟨p1, p2⟩ := mul_bd (x := a.re) (y := b.re) 1000000000 1000000000 (by omega) (by omega) (by omega) (by omega)
    obtain ⟨p3, p4⟩ := mul_bd (x := a.im) (y := b.im) 1000000000 1000000000 (by omega) (by omega) (by omega) (by omega)
    obtain ⟨p5, p6⟩ := mul_bd (x := a.re) (y := b.im) 1000000000 1000000000 (by omega) (by omega) (by omega) (by omega)
    obtain ⟨p7, p8⟩ := mul_bd (x := a.im) (y := b.re) 1000000000 1000000000 (by omega) (by omega) (by omega) (by omega)
    obtain ⟨p9, p10⟩ := mul_bd (x := a.den) (y := b.den) 1000000000 1000000000 (by omega) (by omega) (by omega) (by omega)
    have p11 : 0 < a.den * b.den := Int.mul_pos (by omega) (by omega)
    simp only [Int.reduceMul, Int.reduceNeg] at p1 p2 p3 p4 p5 p6 p7 p8 p9 p10
    clear ha hb
    have HRed := Lib.hid hR
    clear hR
    go_enter Try.func10, Try.ntmps10
    go_wp2_with fail
    refine (rboth_any a b _).mono ?_; rintro e1 w1 ⟨rfl, hb1⟩; obtain ⟨hc1, hf1⟩ := bcell hb1; have hs1 := hb1.size; (try simp at hs1); (try have z1_w_0 : w.heap.size < w1.heap.size := (by omega)); (try have y1_w_0 : w.heap.size ≤ w1.heap.size := (by omega)); (try have z1_w_1 : w.heap.size + 1 < w1.heap.size := (by omega)); (try have y1_w_1 : w.heap.size + 1 ≤ w1.heap.size := (by omega)); (try have z1_w_2 : w.heap.size + 2 < w1.heap.size := (by omega)); (try have y1_w_2 : w.heap.size + 2 ≤ w1.heap.size := (by omega))
    have k1_a0 : w1.cell? ⟨w.heap.size, 0, none⟩ = some (.int .i64 a.re) := carry hb1 (by go_simp); (try have f1_a0 : w1.frozen? ⟨w.heap.size, 0, none⟩ = false := carryf hb1 (v := .int .i64 a.re) (by go_simp) (by go_simp)); have k1_a1 : w1.cell? ⟨w.heap.size, 1, none⟩ = some (.int .i64 a.im) := carry hb1 (by go_simp); (try have f1_a1 : w1.frozen? ⟨w.heap.size, 1, none⟩ = false := carryf hb1 (v := .int .i64 a.im) (by go_simp) (by go_simp)); have k1_a2 : w1.cell? ⟨w.heap.size, 2, none⟩ = some (.int .i64 a.den) := carry hb1 (by go_simp); (try have f1_a2 : w1.frozen? ⟨w.heap.size, 2, none⟩ = false := carryf hb1 (v := .int .i64 a.den) (by go_simp) (by go_simp)); have k1_b0 : w1.cell? ⟨w.heap.size + 1, 0, none⟩ = some (.int .i64 b.re) := carry hb1 (by go_simp); (try have f1_b0 : w1.frozen? ⟨w.heap.size + 1, 0, none⟩ = false := carryf hb1 (v := .int .i64 b.re) (by go_simp) (by go_simp)); have k1_b1 : w1.cell? ⟨w.heap.size + 1, 1, none⟩ = some (.int .i64 b.im) := carry hb1 (by go_simp); (try have f1_b1 : w1.frozen? ⟨w.heap.size + 1, 1, none⟩ = false := carryf hb1 (v := .int .i64 b.im) (by go_simp) (by go_simp)); have k1_b2 : w1.cell? ⟨w.heap.size + 1, 2, none⟩ = some (.int .i64 b.den) := carry hb1 (by go_simp); (try have f1_b2 : w1.frozen? ⟨w.heap.size + 1, 2, none⟩ = false := carryf hb1 (v := .int .i64 b.den) (by go_simp) (by go_simp)); have k1_r0 : w1.cell? ⟨w.heap.size + 2, 0, none⟩ = some (.int .i64 0) := carry hb1 (by go_simp); (try have f1_r0 : w1.frozen? ⟨w.heap.size + 2, 0, none⟩ = false := carryf hb1 (v := .int .i64 0) (by go_simp) (by go_simp)); have k1_r1 : w1.cell? ⟨w.heap.size + 2, 1, none⟩ = some (.int .i64 0) := carry hb1 (by go_simp); (try have f1_r1 : w1.frozen? ⟨w.heap.size + 2, 1, none⟩ = false := carryf hb1 (v := .int .i64 0) (by go_simp) (by go_simp)); have k1_r2 : w1.cell? ⟨w.heap.size + 2, 2, none⟩ = some (.int .i64 0) := carry hb1 (by go_simp); (try have f1_r2 : w1.frozen? ⟨w.heap.size + 2, 2, none⟩ = false := carryf hb1 (v := .int .i64 0) (by go_simp) (by go_simp))
    rw [HB.out]
    go_wp2_with fail
    refine (rmade_any _ _ _ (by omega) (by omega) (by omega) (by omega) _).mono ?_; rintro e2 w2 ⟨rfl, hb2⟩; obtain ⟨hc2, hf2⟩ := bcell hb2; have hs2 := hb2.size; (try simp at hs2); (try have z2_w_0 : w.heap.size < w2.heap.size := (by omega)); (try have y2_w_0 : w.heap.size ≤ w2.heap.size := (by omega)); (try have z2_w_1 : w.heap.size + 1 < w2.heap.size := (by omega)); (try have y2_w_1 : w.heap.size + 1 ≤ w2.heap.size := (by omega)); (try have z2_w_2 : w.heap.size + 2 < w2.heap.size := (by omega)); (try have y2_w_2 : w.heap.size + 2 ≤ w2.heap.size := (by omega))
    have k2_a0 : w2.cell? ⟨w.heap.size, 0, none⟩ = some (.int .i64 a.re) := carry hb2 (by go_simp); (try have f2_a0 : w2.frozen? ⟨w.heap.size, 0, none⟩ = false := carryf hb2 (v := .int .i64 a.re) (by go_simp) (by go_simp)); have k2_a1 : w2.cell? ⟨w.heap.size, 1, none⟩ = some (.int .i64 a.im) := carry hb2 (by go_simp); (try have f2_a1 : w2.frozen? ⟨w.heap.size, 1, none⟩ = false := carryf hb2 (v := .int .i64 a.im) (by go_simp) (by go_simp)); have k2_a2 : w2.cell? ⟨w.heap.size, 2, none⟩ = some (.int .i64 a.den) := carry hb2 (by go_simp); (try have f2_a2 : w2.frozen? ⟨w.heap.size, 2, none⟩ = false := carryf hb2 (v := .int .i64 a.den) (by go_simp) (by go_simp)); have k2_b0 : w2.cell? ⟨w.heap.size + 1, 0, none⟩ = some (.int .i64 b.re) := carry hb2 (by go_simp); (try have f2_b0 : w2.frozen? ⟨w.heap.size + 1, 0, none⟩ = false := carryf hb2 (v := .int .i64 b.re) (by go_simp) (by go_simp)); have k2_b1 : w2.cell? ⟨w.heap.size + 1, 1, none⟩ = some (.int .i64 b.im) := carry hb2 (by go_simp); (try have f2_b1 : w2.frozen? ⟨w.heap.size + 1, 1, none⟩ = false := carryf hb2 (v := .int .i64 b.im) (by go_simp) (by go_simp)); have k2_b2 : w2.cell? ⟨w.heap.size + 1, 2, none⟩ = some (.int .i64 b.den) := carry hb2 (by go_simp); (try have f2_b2 : w2.frozen? ⟨w.heap.size + 1, 2, none⟩ = false := carryf hb2 (v := .int .i64 b.den) (by go_simp) (by go_simp)); have k2_r0 : w2.cell? ⟨w.heap.size + 2, 0, none⟩ = some (.int .i64 0) := carry hb2 (by go_simp); (try have f2_r0 : w2.frozen? ⟨w.heap.size + 2, 0, none⟩ = false := carryf hb2 (v := .int .i64 0) (by go_simp) (by go_simp)); have k2_r1 : w2.cell? ⟨w.heap.size + 2, 1, none⟩ = some (.int .i64 0) := carry hb2 (by go_simp); (try have f2_r1 : w2.frozen? ⟨w.heap.size + 2, 1, none⟩ = false := carryf hb2 (v := .int .i64 0) (by go_simp) (by go_simp)); have k2_r2 : w2.cell? ⟨w.heap.size + 2, 2, none⟩ = some (.int .i64 0) := carry hb2 (by go_simp); (try have f2_r2 : w2.frozen? ⟨w.heap.size + 2, 2, none⟩ = false := carryf hb2 (v := .int .i64 0) (by go_simp) (by go_simp))
    rw [HRed.out]
    go_wp2_with fail
    exact bodyPost_ret (v := .tuple #[.agg #[.int .i64 (R.1).re, .int .i64 (R.1).im, .int .i64 (R.1).den], .int .i64 R.2]) (by simp only [results, Try.results10]; go_simp) rfl ⟨rfl, by repeat (first | exact Below.refl _ _ | (refine b_set ?_ (by omega) _) | (refine b_alloc ?_ _) | (refine b_drew ?_) | (refine b_drewN ?_ _) | (refine b_then ?_ (by assumption)))⟩
  · have HB : Hid (Cx.both a b = 8) := Lib.hid (by unfold Cx.both; rw [if_neg hok])
    have hR := HR.out
    unfold Cx.mul at hR
    rw [if_neg hok] at hR
    subst hR
    clear hok
    go_enter Try.func10, Try.ntmps10
    go_wp2_with fail
    refine (rboth_any a b _).mono ?_; rintro e1 w1 ⟨rfl, hb1⟩; obtain ⟨hc1, hf1⟩ := bcell hb1; have hs1 := hb1.size; (try simp at hs1); (try have z1_w_0 : w.heap.size < w1.heap.size := (by omega)); (try have y1_w_0 : w.heap.size ≤ w1.heap.size := (by omega)); (try have z1_w_1 : w.heap.size + 1 < w1.heap.size := (by omega)); (try have y1_w_1 : w.heap.size + 1 ≤ w1.heap.size := (by omega)); (try have z1_w_2 : w.heap.size + 2 < w1.heap.size := (by omega)); (try have y1_w_2 : w.heap.size + 2 ≤ w1.heap.size := (by omega))
    have k1_a0 : w1.cell? ⟨w.heap.size, 0, none⟩ = some (.int .i64 a.re) := carry hb1 (by go_simp); (try have f1_a0 : w1.frozen? ⟨w.heap.size, 0, none⟩ = false := carryf hb1 (v := .int .i64 a.re) (by go_simp) (by go_simp)); have k1_a1 : w1.cell? ⟨w.heap.size, 1, none⟩ = some (.int .i64 a.im) := carry hb1 (by go_simp); (try have f1_a1 : w1.frozen? ⟨w.heap.size, 1, none⟩ = false := carryf hb1 (v := .int .i64 a.im) (by go_simp) (by go_simp)); have k1_a2 : w1.cell? ⟨w.heap.size, 2, none⟩ = some (.int .i64 a.den) := carry hb1 (by go_simp); (try have f1_a2 : w1.frozen? ⟨w.heap.size, 2, none⟩ = false := carryf hb1 (v := .int .i64 a.den) (by go_simp) (by go_simp)); have k1_b0 : w1.cell? ⟨w.heap.size + 1, 0, none⟩ = some (.int .i64 b.re) := carry hb1 (by go_simp); (try have f1_b0 : w1.frozen? ⟨w.heap.size + 1, 0, none⟩ = false := carryf hb1 (v := .int .i64 b.re) (by go_simp) (by go_simp)); have k1_b1 : w1.cell? ⟨w.heap.size + 1, 1, none⟩ = some (.int .i64 b.im) := carry hb1 (by go_simp); (try have f1_b1 : w1.frozen? ⟨w.heap.size + 1, 1, none⟩ = false := carryf hb1 (v := .int .i64 b.im) (by go_simp) (by go_simp)); have k1_b2 : w1.cell? ⟨w.heap.size + 1, 2, none⟩ = some (.int .i64 b.den) := carry hb1 (by go_simp); (try have f1_b2 : w1.frozen? ⟨w.heap.size + 1, 2, none⟩ = false := carryf hb1 (v := .int .i64 b.den) (by go_simp) (by go_simp)); have k1_r0 : w1.cell? ⟨w.heap.size + 2, 0, none⟩ = some (.int .i64 0) := carry hb1 (by go_simp); (try have f1_r0 : w1.frozen? ⟨w.heap.size + 2, 0, none⟩ = false := carryf hb1 (v := .int .i64 0) (by go_simp) (by go_simp)); have k1_r1 : w1.cell? ⟨w.heap.size + 2, 1, none⟩ = some (.int .i64 0) := carry hb1 (by go_simp); (try have f1_r1 : w1.frozen? ⟨w.heap.size + 2, 1, none⟩ = false := carryf hb1 (v := .int .i64 0) (by go_simp) (by go_simp)); have k1_r2 : w1.cell? ⟨w.heap.size + 2, 2, none⟩ = some (.int .i64 0) := carry hb1 (by go_simp); (try have f1_r2 : w1.frozen? ⟨w.heap.size + 2, 2, none⟩ = false := carryf hb1 (v := .int .i64 0) (by go_simp) (by go_simp))
    rw [HB.out]
    go_wp2_with fail
    exact bodyPost_ret (v := .tuple #[.agg #[.int .i64 0, .int .i64 0, .int .i64 0], .int .i64 8]) (by simp only [results, Try.results10]; go_simp) rfl ⟨rfl, by repeat (first | exact Below.refl _ _ | (refine b_set ?_ (by omega) _) | (refine b_alloc ?_ _) | (refine b_drew ?_) | (refine b_drewN ?_ _) | (refine b_then ?_ (by assumption)))⟩

theorem rneg_any (a : Cx) (h0 : -1000000000 ≤ a.re ∧ a.re ≤ 1000000000) (h1 : -1000000000 ≤ a.im ∧ a.im ≤ 1000000000) (w : World) :
    Calls Try.prog 31 #[.agg #[.int .i64 (a).re, .int .i64 (a).im, .int .i64 (a).den]] w fun e w' => e = .returned (.agg #[.int .i64 (Cx.neg a).re, .int .i64 (Cx.neg a).im, .int .i64 (Cx.neg a).den]) ∧ Below w.heap.size w w' := by
  go_enter Try.func31, Try.ntmps31
  go_wp2_with fail
  exact bodyPost_ret (v := .agg #[.int .i64 (Cx.neg a).re, .int .i64 (Cx.neg a).im, .int .i64 (Cx.neg a).den]) (by simp only [results, Try.results31, Cx.neg]; go_simp) rfl ⟨rfl, by repeat (first | exact Below.refl _ _ | (refine b_set ?_ (by omega) _) | (refine b_alloc ?_ _) | (refine b_drew ?_) | (refine b_drewN ?_ _) | (refine b_then ?_ (by assumption)))⟩

set_option maxHeartbeats 1000000 in
theorem rsub_any (a b : Cx) (w : World) :
    Calls Try.prog 8 #[.agg #[.int .i64 (a).re, .int .i64 (a).im, .int .i64 (a).den], .agg #[.int .i64 (b).re, .int .i64 (b).im, .int .i64 (b).den]] w fun e w' => e = .returned (.tuple #[.agg #[.int .i64 ((Cx.sub a b).1).re, .int .i64 ((Cx.sub a b).1).im, .int .i64 ((Cx.sub a b).1).den], .int .i64 (Cx.sub a b).2]) ∧ Below w.heap.size w w' := by
  rw [← Cx.add_neg]
  obtain ⟨R, HR⟩ : ∃ R, Hid (Cx.add a b.neg = R) := ⟨_, Lib.hid rfl⟩
  rw [HR.out]
  by_cases hok : (a.ok && b.ok) = true
  · have HB : Hid (Cx.both a b = 0) := Lib.hid (by unfold Cx.both; rw [if_pos hok])
    simp only [Bool.and_eq_true] at hok
    obtain ⟨ha, hb⟩ := hok
    have bb := Cx.bounds hb
    clear ha hb
    go_enter Try.func8, Try.ntmps8
    go_wp2_with fail
    refine (rboth_any a b _).mono ?_; rintro e1 w1 ⟨rfl, hb1⟩; obtain ⟨hc1, hf1⟩ := bcell hb1; have hs1 := hb1.size; (try simp at hs1); (try have z1_w_0 : w.heap.size < w1.heap.size := (by omega)); (try have y1_w_0 : w.heap.size ≤ w1.heap.size := (by omega)); (try have z1_w_1 : w.heap.size + 1 < w1.heap.size := (by omega)); (try have y1_w_1 : w.heap.size + 1 ≤ w1.heap.size := (by omega)); (try have z1_w_2 : w.heap.size + 2 < w1.heap.size := (by omega)); (try have y1_w_2 : w.heap.size + 2 ≤ w1.heap.size := (by omega))
    have k1_a0 : w1.cell? ⟨w.heap.size, 0, none⟩ = some (.int .i64 a.re) := carry hb1 (by go_simp); (try have f1_a0 : w1.frozen? ⟨w.heap.size, 0, none⟩ = false := carryf hb1 (v := .int .i64 a.re) (by go_simp) (by go_simp)); have k1_a1 : w1.cell? ⟨w.heap.size, 1, none⟩ = some (.int .i64 a.im) := carry hb1 (by go_simp); (try have f1_a1 : w1.frozen? ⟨w.heap.size, 1, none⟩ = false := carryf hb1 (v := .int .i64 a.im) (by go_simp) (by go_simp)); have k1_a2 : w1.cell? ⟨w.heap.size, 2, none⟩ = some (.int .i64 a.den) := carry hb1 (by go_simp); (try have f1_a2 : w1.frozen? ⟨w.heap.size, 2, none⟩ = false := carryf hb1 (v := .int .i64 a.den) (by go_simp) (by go_simp)); have k1_b0 : w1.cell? ⟨w.heap.size + 1, 0, none⟩ = some (.int .i64 b.re) := carry hb1 (by go_simp); (try have f1_b0 : w1.frozen? ⟨w.heap.size + 1, 0, none⟩ = false := carryf hb1 (v := .int .i64 b.re) (by go_simp) (by go_simp)); have k1_b1 : w1.cell? ⟨w.heap.size + 1, 1, none⟩ = some (.int .i64 b.im) := carry hb1 (by go_simp); (try have f1_b1 : w1.frozen? ⟨w.heap.size + 1, 1, none⟩ = false := carryf hb1 (v := .int .i64 b.im) (by go_simp) (by go_simp)); have k1_b2 : w1.cell? ⟨w.heap.size + 1, 2, none⟩ = some (.int .i64 b.den) := carry hb1 (by go_simp); (try have f1_b2 : w1.frozen? ⟨w.heap.size + 1, 2, none⟩ = false := carryf hb1 (v := .int .i64 b.den) (by go_simp) (by go_simp)); have k1_r0 : w1.cell? ⟨w.heap.size + 2, 0, none⟩ = some (.int .i64 0) := carry hb1 (by go_simp); (try have f1_r0 : w1.frozen? ⟨w.heap.size + 2, 0, none⟩ = false := carryf hb1 (v := .int .i64 0) (by go_simp) (by go_simp)); have k1_r1 : w1.cell? ⟨w.heap.size + 2, 1, none⟩ = some (.int .i64 0) := carry hb1 (by go_simp); (try have f1_r1 : w1.frozen? ⟨w.heap.size + 2, 1, none⟩ = false := carryf hb1 (v := .int .i64 0) (by go_simp) (by go_simp)); have k1_r2 : w1.cell? ⟨w.heap.size + 2, 2, none⟩ = some (.int .i64 0) := carry hb1 (by go_simp); (try have f1_r2 : w1.frozen? ⟨w.heap.size + 2, 2, none⟩ = false := carryf hb1 (v := .int .i64 0) (by go_simp) (by go_simp))
    rw [HB.out]
    go_wp2_with fail
    have ne1 : ¬ (w.heap.size + 1 + 1 = w.heap.size) := by omega
    have ne2 : ¬ (w.heap.size + 2 = w.heap.size) := by omega
    go_region_held3 (fun w' => w'.cell? ⟨w.heap.size, 0, none⟩ = some (.int .i64 a.re) ∧ w'.cell? ⟨w.heap.size, 1, none⟩ = some (.int .i64 a.im) ∧ w'.cell? ⟨w.heap.size, 2, none⟩ = some (.int .i64 a.den) ∧ w'.cell? ⟨w.heap.size + 1, 0, none⟩ = some (.int .i64 b.re) ∧ w'.cell? ⟨w.heap.size + 1, 1, none⟩ = some (.int .i64 b.im) ∧ w'.cell? ⟨w.heap.size + 1, 2, none⟩ = some (.int .i64 b.den)) (first | exact ⟨k2_a0, k2_a1, k2_a2, k2_b0, k2_b1, k2_b2⟩ | exact ⟨k3_a0, k3_a1, k3_a2, k3_b0, k3_b1, k3_b2⟩ | go_keep) (first | (go_at_call 31; refine (rneg_any b (by omega) (by omega) _).mono ?_; rintro e2 w2 ⟨rfl, hb2⟩; obtain ⟨hc2, hf2⟩ := bcell hb2; have hs2 := hb2.size; (try simp at hs2); (try have z2_w_0 : w.heap.size < w2.heap.size := (by omega)); (try have y2_w_0 : w.heap.size ≤ w2.heap.size := (by omega)); (try have z2_w_1 : w.heap.size + 1 < w2.heap.size := (by omega)); (try have y2_w_1 : w.heap.size + 1 ≤ w2.heap.size := (by omega)); (try have z2_w_2 : w.heap.size + 2 < w2.heap.size := (by omega)); (try have y2_w_2 : w.heap.size + 2 ≤ w2.heap.size := (by omega)); (try have z2_w1_0 : w1.heap.size < w2.heap.size := (by omega)); (try have y2_w1_0 : w1.heap.size ≤ w2.heap.size := (by omega)); have k2_a0 : w2.cell? ⟨w.heap.size, 0, none⟩ = some (.int .i64 a.re) := carry hb2 (by go_simp); (try have f2_a0 : w2.frozen? ⟨w.heap.size, 0, none⟩ = false := carryf hb2 (v := .int .i64 a.re) (by go_simp) (by go_simp)); have k2_a1 : w2.cell? ⟨w.heap.size, 1, none⟩ = some (.int .i64 a.im) := carry hb2 (by go_simp); (try have f2_a1 : w2.frozen? ⟨w.heap.size, 1, none⟩ = false := carryf hb2 (v := .int .i64 a.im) (by go_simp) (by go_simp)); have k2_a2 : w2.cell? ⟨w.heap.size, 2, none⟩ = some (.int .i64 a.den) := carry hb2 (by go_simp); (try have f2_a2 : w2.frozen? ⟨w.heap.size, 2, none⟩ = false := carryf hb2 (v := .int .i64 a.den) (by go_simp) (by go_simp)); have k2_b0 : w2.cell? ⟨w.heap.size + 1, 0, none⟩ = some (.int .i64 b.re) := carry hb2 (by go_simp); (try have f2_b0 : w2.frozen? ⟨w.heap.size + 1, 0, none⟩ = false := carryf hb2 (v := .int .i64 b.re) (by go_simp) (by go_simp)); have k2_b1 : w2.cell? ⟨w.heap.size + 1, 1, none⟩ = some (.int .i64 b.im) := carry hb2 (by go_simp); (try have f2_b1 : w2.frozen? ⟨w.heap.size + 1, 1, none⟩ = false := carryf hb2 (v := .int .i64 b.im) (by go_simp) (by go_simp)); have k2_b2 : w2.cell? ⟨w.heap.size + 1, 2, none⟩ = some (.int .i64 b.den) := carry hb2 (by go_simp); (try have f2_b2 : w2.frozen? ⟨w.heap.size + 1, 2, none⟩ = false := carryf hb2 (v := .int .i64 b.den) (by go_simp) (by go_simp)); have k2_r0 : w2.cell? ⟨w.heap.size + 2, 0, none⟩ = some (.int .i64 0) := carry hb2 (by go_simp); (try have f2_r0 : w2.frozen? ⟨w.heap.size + 2, 0, none⟩ = false := carryf hb2 (v := .int .i64 0) (by go_simp) (by go_simp)); have k2_r1 : w2.cell? ⟨w.heap.size + 2, 1, none⟩ = some (.int .i64 0) := carry hb2 (by go_simp); (try have f2_r1 : w2.frozen? ⟨w.heap.size + 2, 1, none⟩ = false := carryf hb2 (v := .int .i64 0) (by go_simp) (by go_simp)); have k2_r2 : w2.cell? ⟨w.heap.size + 2, 2, none⟩ = some (.int .i64 0) := carry hb2 (by go_simp); (try have f2_r2 : w2.frozen? ⟨w.heap.size + 2, 2, none⟩ = false := carryf hb2 (v := .int .i64 0) (by go_simp) (by go_simp))) | (go_at_call 6; refine (radd_any a b.neg _).mono ?_; rintro e3 w3 ⟨rfl, hb3⟩; obtain ⟨hc3, hf3⟩ := bcell hb3; have hs3 := hb3.size; (try simp at hs3); (try have z3_w_0 : w.heap.size < w3.heap.size := (by omega)); (try have y3_w_0 : w.heap.size ≤ w3.heap.size := (by omega)); (try have z3_w_1 : w.heap.size + 1 < w3.heap.size := (by omega)); (try have y3_w_1 : w.heap.size + 1 ≤ w3.heap.size := (by omega)); (try have z3_w_2 : w.heap.size + 2 < w3.heap.size := (by omega)); (try have y3_w_2 : w.heap.size + 2 ≤ w3.heap.size := (by omega)); (try have z3_w1_0 : w1.heap.size < w3.heap.size := (by omega)); (try have y3_w1_0 : w1.heap.size ≤ w3.heap.size := (by omega)); (try have z3_w2_0 : w2.heap.size < w3.heap.size := (by omega)); (try have y3_w2_0 : w2.heap.size ≤ w3.heap.size := (by omega)); have k3_a0 : w3.cell? ⟨w.heap.size, 0, none⟩ = some (.int .i64 a.re) := carry hb3 (by go_simp); (try have f3_a0 : w3.frozen? ⟨w.heap.size, 0, none⟩ = false := carryf hb3 (v := .int .i64 a.re) (by go_simp) (by go_simp)); have k3_a1 : w3.cell? ⟨w.heap.size, 1, none⟩ = some (.int .i64 a.im) := carry hb3 (by go_simp); (try have f3_a1 : w3.frozen? ⟨w.heap.size, 1, none⟩ = false := carryf hb3 (v := .int .i64 a.im) (by go_simp) (by go_simp)); have k3_a2 : w3.cell? ⟨w.heap.size, 2, none⟩ = some (.int .i64 a.den) := carry hb3 (by go_simp); (try have f3_a2 : w3.frozen? ⟨w.heap.size, 2, none⟩ = false := carryf hb3 (v := .int .i64 a.den) (by go_simp) (by go_simp)); have k3_b0 : w3.cell? ⟨w.heap.size + 1, 0, none⟩ = some (.int .i64 b.re) := carry hb3 (by go_simp); (try have f3_b0 : w3.frozen? ⟨w.heap.size + 1, 0, none⟩ = false := carryf hb3 (v := .int .i64 b.re) (by go_simp) (by go_simp)); have k3_b1 : w3.cell? ⟨w.heap.size + 1, 1, none⟩ = some (.int .i64 b.im) := carry hb3 (by go_simp); (try have f3_b1 : w3.frozen? ⟨w.heap.size + 1, 1, none⟩ = false := carryf hb3 (v := .int .i64 b.im) (by go_simp) (by go_simp)); have k3_b2 : w3.cell? ⟨w.heap.size + 1, 2, none⟩ = some (.int .i64 b.den) := carry hb3 (by go_simp); (try have f3_b2 : w3.frozen? ⟨w.heap.size + 1, 2, none⟩ = false := carryf hb3 (v := .int .i64 b.den) (by go_simp) (by go_simp)); have k3_r0 : w3.cell? ⟨w.heap.size + 2, 0, none⟩ = some (.int .i64 0) := carry hb3 (by go_simp); (try have f3_r0 : w3.frozen? ⟨w.heap.size + 2, 0, none⟩ = false := carryf hb3 (v := .int .i64 0) (by go_simp) (by go_simp)); have k3_r1 : w3.cell? ⟨w.heap.size + 2, 1, none⟩ = some (.int .i64 0) := carry hb3 (by go_simp); (try have f3_r1 : w3.frozen? ⟨w.heap.size + 2, 1, none⟩ = false := carryf hb3 (v := .int .i64 0) (by go_simp) (by go_simp)); have k3_r2 : w3.cell? ⟨w.heap.size + 2, 2, none⟩ = some (.int .i64 0) := carry hb3 (by go_simp); (try have f3_r2 : w3.frozen? ⟨w.heap.size + 2, 2, none⟩ = false := carryf hb3 (v := .int .i64 0) (by go_simp) (by go_simp)); rw [HR.out]))
    go_wp2_with fail
    exact bodyPost_ret (v := .tuple #[.agg #[.int .i64 (R.1).re, .int .i64 (R.1).im, .int .i64 (R.1).den], .int .i64 R.2]) (by simp only [results, Try.results8]; go_simp) rfl ⟨rfl, by repeat (first | exact Below.refl _ _ | (refine b_set ?_ (by omega) _) | (refine b_alloc ?_ _) | (refine b_drew ?_) | (refine b_drewN ?_ _) | (refine b_then ?_ (by assumption)))⟩
  · have HB : Hid (Cx.both a b = 8) := Lib.hid (by unfold Cx.both; rw [if_neg hok])
    have hR := HR.out
    rw [Cx.add_neg] at hR
    unfold Cx.sub at hR
    rw [if_neg hok] at hR
    subst hR
    clear hok
    go_enter Try.func8, Try.ntmps8
    go_wp2_with fail
    refine (rboth_any a b _).mono ?_; rintro e1 w1 ⟨rfl, hb1⟩; obtain ⟨hc1, hf1⟩ := bcell hb1; have hs1 := hb1.size; (try simp at hs1); (try have z1_w_0 : w.heap.size < w1.heap.size := (by omega)); (try have y1_w_0 : w.heap.size ≤ w1.heap.size := (by omega)); (try have z1_w_1 : w.heap.size + 1 < w1.heap.size := (by omega)); (try have y1_w_1 : w.heap.size + 1 ≤ w1.heap.size := (by omega)); (try have z1_w_2 : w.heap.size + 2 < w1.heap.size := (by omega)); (try have y1_w_2 : w.heap.size + 2 ≤ w1.heap.size := (by omega))
    have k1_r0 : w1.cell? ⟨w.heap.size + 2, 0, none⟩ = some (.int .i64 0) := carry hb1 (by go_simp); (try have f1_r0 : w1.frozen? ⟨w.heap.size + 2, 0, none⟩ = false := carryf hb1 (v := .int .i64 0) (by go_simp) (by go_simp)); have k1_r1 : w1.cell? ⟨w.heap.size + 2, 1, none⟩ = some (.int .i64 0) := carry hb1 (by go_simp); (try have f1_r1 : w1.frozen? ⟨w.heap.size + 2, 1, none⟩ = false := carryf hb1 (v := .int .i64 0) (by go_simp) (by go_simp)); have k1_r2 : w1.cell? ⟨w.heap.size + 2, 2, none⟩ = some (.int .i64 0) := carry hb1 (by go_simp); (try have f1_r2 : w1.frozen? ⟨w.heap.size + 2, 2, none⟩ = false := carryf hb1 (v := .int .i64 0) (by go_simp) (by go_simp))
    rw [HB.out]
    go_wp2_with fail
    exact bodyPost_ret (v := .tuple #[.agg #[.int .i64 0, .int .i64 0, .int .i64 0], .int .i64 8]) (by simp only [results, Try.results8]; go_simp) rfl ⟨rfl, by repeat (first | exact Below.refl _ _ | (refine b_set ?_ (by omega) _) | (refine b_alloc ?_ _) | (refine b_drew ?_) | (refine b_drewN ?_ _) | (refine b_then ?_ (by assumption)))⟩

theorem zero_any (a : Cx) (w : World) :
    Calls Try.prog 32 #[.agg #[.int .i64 (a).re, .int .i64 (a).im, .int .i64 (a).den]] w fun e w' => e = .returned (.bool a.isZero) ∧ Below w.heap.size w w' := by
  by_cases h1 : a.re = 0
  · have d1 : (a.re == 0) = true := by simpa using h1
    have HZ : Hid (a.isZero = (a.im == 0)) := Lib.hid (by unfold Cx.isZero; rw [d1]; rfl)
    rw [HZ.out]
    clear h1
    go_enter Try.func32, Try.ntmps32
    go_wp2_with fail
    go_ret
    exact ⟨rfl, by repeat (first | exact Below.refl _ _ | (refine b_set ?_ (by omega) _) | (refine b_alloc ?_ _) | (refine b_drew ?_) | (refine b_drewN ?_ _) | (refine b_then ?_ (by assumption)))⟩
  · have d1 : (a.re == 0) = false := by simpa using h1
    have HZ : Hid (a.isZero = false) := Lib.hid (by unfold Cx.isZero; rw [d1]; rfl)
    rw [HZ.out]
    clear h1
    go_enter Try.func32, Try.ntmps32
    go_wp2_with fail
    go_ret
    exact ⟨rfl, by repeat (first | exact Below.refl _ _ | (refine b_set ?_ (by omega) _) | (refine b_alloc ?_ _) | (refine b_drew ?_) | (refine b_drewN ?_ _) | (refine b_then ?_ (by assumption)))⟩

end Go.Proofs.Ytdjdjbopddkndaa.A
