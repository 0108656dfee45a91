/- Sums, differences and products of layer 25 and of its reference: what they answer. -/
import Derived.Test.YtdjdjbopddkndaaProg
import Derived.Below
import Derived.Deep.Draws
import Derived.OwnWalk
import Derived.Tactics
import Derived.WalkKit
import Derived.KernelRfl
import Derived.Deep.LoopGhost
import Derived.Deep.QuietTactic
import Derived.BigQuiet
import Derived.Deep.DeepCutAuto
import Derived.Deep.RegionHeld3
import Derived.StillTailTactics
import Derived.WalkLawsBesides
import Derived.Lib.Hide
import Derived.Outline
import Derived.BigRegion
import Derived.Test.YtdjdjbopddkndaaMath
import Derived.Test.YtdjdjbopddkndaaLib
import Derived.Test.YtdjdjbopddkndaaCx1
import Derived.Test.YtdjdjbopddkndaaCx2
import Derived.Test.YtdjdjbopddkndaaCx3
import Derived.Test.YtdjdjbopddkndaaCx4
namespace Go.Proofs.Ytdjdjbopddkndaa.A
open Go.RowKit Go.Proofs.Ytdjdjbopddkndaa.M
set_option linter.unusedVariables false
set_option linter.unusedSimpArgs false

set_option maxHeartbeats 4000000 in
theorem add_any (a b : Cx) (w : World) :
    Calls Try.prog 5 #[.agg #[.int .i64 (a).re, .int .i64 (a).im, .int .i64 (a).den], .agg #[.int .i64 (b).re, .int .i64 (b).im, .int .i64 (b).den]] w fun e w' => e = .returned (.tuple #[.agg #[.int .i64 ((Cx.add a b).1).re, .int .i64 ((Cx.add a b).1).im, .int .i64 ((Cx.add a b).1).den], .int .i64 (Cx.add a b).2]) ∧ Below w.heap.size w w' := by
  obtain ⟨R, HR⟩ : ∃ R, Hid (Cx.add a b = R) := ⟨_, Lib.hid rfl⟩
  rw [HR.out]
  by_cases hok : (a.ok && b.ok) = true
  · have HB : Hid (Cx.both a b = 0) := Lib.hid (by unfold Cx.both; rw [if_pos hok])
    have hR := HR.out
    unfold Cx.add at hR
    rw [if_pos hok] at hR
    simp only [Bool.and_eq_true] at hok
    obtain ⟨ha, hb⟩ := hok
    have ba := Cx.bounds ha
    have bb := Cx.bounds hb
    obtain ⟨p1, p2⟩ := mul_bd (x := a.re) (y := b.den) 1000000000 1000000000 (by omega) (by omega) (by omega) (by omega)
    obtain ⟨p3, p4⟩ := mul_bd (x := b.re) (y := a.den) 1000000000 1000000000 (by omega) (by omega) (by omega) (by omega)
    obtain ⟨p5, p6⟩ := mul_bd (x := a.im) (y := b.den) 1000000000 1000000000 (by omega) (by omega) (by omega) (by omega)
    obtain ⟨p7, p8⟩ := mul_bd (x := b.im) (y := a.den) 1000000000 1000000000 (by omega) (by omega) (by omega) (by omega)
    obtain ⟨p9, p10⟩ := mul_bd (x := a.den) (y := b.den) 1000000000 1000000000 (by omega) (by omega) (by omega) (by omega)
    have p11 : 0 < a.den * b.den := Int.mul_pos (by omega) (by omega)
    simp only [Int.reduceMul, Int.reduceNeg] at p1 p2 p3 p4 p5 p6 p7 p8 p9 p10
    clear ha hb
    have HRed := Lib.hid hR
    clear hR
    go_enter Try.func5, Try.ntmps5
    go_wp2_with fail
    refine (both_any a b _).mono ?_; rintro e1 w1 ⟨rfl, hb1⟩; obtain ⟨hc1, hf1⟩ := bcell hb1; have hs1 := hb1.size; (try simp at hs1); have z1_w_0 : w.heap.size < w1.heap.size := (by omega); have y1_w_0 : w.heap.size ≤ w1.heap.size := (by omega); have z1_w_1 : w.heap.size + 1 < w1.heap.size := (by omega); have y1_w_1 : w.heap.size + 1 ≤ w1.heap.size := (by omega); have z1_w_2 : w.heap.size + 2 < w1.heap.size := (by omega); have y1_w_2 : w.heap.size + 2 ≤ w1.heap.size := (by omega)
    have k1_a0 : w1.cell? ⟨w.heap.size, 0, none⟩ = some (.int .i64 a.re) := carry hb1 (by go_simp); have k1_a1 : w1.cell? ⟨w.heap.size, 1, none⟩ = some (.int .i64 a.im) := carry hb1 (by go_simp); have k1_a2 : w1.cell? ⟨w.heap.size, 2, none⟩ = some (.int .i64 a.den) := carry hb1 (by go_simp); have k1_b0 : w1.cell? ⟨w.heap.size + 1, 0, none⟩ = some (.int .i64 b.re) := carry hb1 (by go_simp); have k1_b1 : w1.cell? ⟨w.heap.size + 1, 1, none⟩ = some (.int .i64 b.im) := carry hb1 (by go_simp); have k1_b2 : w1.cell? ⟨w.heap.size + 1, 2, none⟩ = some (.int .i64 b.den) := carry hb1 (by go_simp); have k1_r0 : w1.cell? ⟨w.heap.size + 2, 0, none⟩ = some (.int .i64 0) := carry hb1 (by go_simp); have k1_r1 : w1.cell? ⟨w.heap.size + 2, 1, none⟩ = some (.int .i64 0) := carry hb1 (by go_simp); have k1_r2 : w1.cell? ⟨w.heap.size + 2, 2, none⟩ = some (.int .i64 0) := carry hb1 (by go_simp)
    rw [HB.out]
    go_wp2_with fail
    refine (reduced_any _ _ _ (by omega) (by omega) (by omega) (by omega) _).mono ?_; rintro e2 w2 ⟨rfl, hb2⟩; obtain ⟨hc2, hf2⟩ := bcell hb2; have hs2 := hb2.size; (try simp at hs2); have z2_w_0 : w.heap.size < w2.heap.size := (by omega); have y2_w_0 : w.heap.size ≤ w2.heap.size := (by omega); have z2_w_1 : w.heap.size + 1 < w2.heap.size := (by omega); have y2_w_1 : w.heap.size + 1 ≤ w2.heap.size := (by omega); have z2_w_2 : w.heap.size + 2 < w2.heap.size := (by omega); have y2_w_2 : w.heap.size + 2 ≤ w2.heap.size := (by omega)
    have k2_a0 : w2.cell? ⟨w.heap.size, 0, none⟩ = some (.int .i64 a.re) := carry hb2 (by go_simp); have k2_a1 : w2.cell? ⟨w.heap.size, 1, none⟩ = some (.int .i64 a.im) := carry hb2 (by go_simp); have k2_a2 : w2.cell? ⟨w.heap.size, 2, none⟩ = some (.int .i64 a.den) := carry hb2 (by go_simp); have k2_b0 : w2.cell? ⟨w.heap.size + 1, 0, none⟩ = some (.int .i64 b.re) := carry hb2 (by go_simp); have k2_b1 : w2.cell? ⟨w.heap.size + 1, 1, none⟩ = some (.int .i64 b.im) := carry hb2 (by go_simp); have k2_b2 : w2.cell? ⟨w.heap.size + 1, 2, none⟩ = some (.int .i64 b.den) := carry hb2 (by go_simp); have k2_r0 : w2.cell? ⟨w.heap.size + 2, 0, none⟩ = some (.int .i64 0) := carry hb2 (by go_simp); have k2_r1 : w2.cell? ⟨w.heap.size + 2, 1, none⟩ = some (.int .i64 0) := carry hb2 (by go_simp); have k2_r2 : w2.cell? ⟨w.heap.size + 2, 2, none⟩ = some (.int .i64 0) := carry hb2 (by go_simp)
    rw [HRed.out]
    go_wp2_with fail
    exact bodyPost_ret (v := .tuple #[.agg #[.int .i64 (R.1).re, .int .i64 (R.1).im, .int .i64 (R.1).den], .int .i64 R.2]) (by simp only [results, Try.results5]; go_simp) rfl ⟨rfl, by repeat (first | exact Below.refl _ _ | (refine b_set ?_ (by omega) _) | (refine b_alloc ?_ _) | (refine b_drew ?_) | (refine b_drewN ?_ _) | (refine b_then ?_ (by assumption)))⟩
  · have HB : Hid (Cx.both a b = 8) := Lib.hid (by unfold Cx.both; rw [if_neg hok])
    have hR := HR.out
    unfold Cx.add at hR
    rw [if_neg hok] at hR
    subst hR
    clear hok
    go_enter Try.func5, Try.ntmps5
    go_wp2_with fail
    refine (both_any a b _).mono ?_; rintro e1 w1 ⟨rfl, hb1⟩; obtain ⟨hc1, hf1⟩ := bcell hb1; have hs1 := hb1.size; (try simp at hs1); have z1_w_0 : w.heap.size < w1.heap.size := (by omega); have y1_w_0 : w.heap.size ≤ w1.heap.size := (by omega); have z1_w_1 : w.heap.size + 1 < w1.heap.size := (by omega); have y1_w_1 : w.heap.size + 1 ≤ w1.heap.size := (by omega); have z1_w_2 : w.heap.size + 2 < w1.heap.size := (by omega); have y1_w_2 : w.heap.size + 2 ≤ w1.heap.size := (by omega)
    have k1_a0 : w1.cell? ⟨w.heap.size, 0, none⟩ = some (.int .i64 a.re) := carry hb1 (by go_simp); have k1_a1 : w1.cell? ⟨w.heap.size, 1, none⟩ = some (.int .i64 a.im) := carry hb1 (by go_simp); have k1_a2 : w1.cell? ⟨w.heap.size, 2, none⟩ = some (.int .i64 a.den) := carry hb1 (by go_simp); have k1_b0 : w1.cell? ⟨w.heap.size + 1, 0, none⟩ = some (.int .i64 b.re) := carry hb1 (by go_simp); have k1_b1 : w1.cell? ⟨w.heap.size + 1, 1, none⟩ = some (.int .i64 b.im) := carry hb1 (by go_simp); have k1_b2 : w1.cell? ⟨w.heap.size + 1, 2, none⟩ = some (.int .i64 b.den) := carry hb1 (by go_simp); have k1_r0 : w1.cell? ⟨w.heap.size + 2, 0, none⟩ = some (.int .i64 0) := carry hb1 (by go_simp); have k1_r1 : w1.cell? ⟨w.heap.size + 2, 1, none⟩ = some (.int .i64 0) := carry hb1 (by go_simp); have k1_r2 : w1.cell? ⟨w.heap.size + 2, 2, none⟩ = some (.int .i64 0) := carry hb1 (by go_simp)
    rw [HB.out]
    go_wp2_with fail
    exact bodyPost_ret (v := .tuple #[.agg #[.int .i64 0, .int .i64 0, .int .i64 0], .int .i64 8]) (by simp only [results, Try.results5]; go_simp) rfl ⟨rfl, by repeat (first | exact Below.refl _ _ | (refine b_set ?_ (by omega) _) | (refine b_alloc ?_ _) | (refine b_drew ?_) | (refine b_drewN ?_ _) | (refine b_then ?_ (by assumption)))⟩

set_option maxHeartbeats 4000000 in
theorem sub_any (a b : Cx) (w : World) :
    Calls Try.prog 7 #[.agg #[.int .i64 (a).re, .int .i64 (a).im, .int .i64 (a).den], .agg #[.int .i64 (b).re, .int .i64 (b).im, .int .i64 (b).den]] w fun e w' => e = .returned (.tuple #[.agg #[.int .i64 ((Cx.sub a b).1).re, .int .i64 ((Cx.sub a b).1).im, .int .i64 ((Cx.sub a b).1).den], .int .i64 (Cx.sub a b).2]) ∧ Below w.heap.size w w' := by
  obtain ⟨R, HR⟩ : ∃ R, Hid (Cx.sub a b = R) := ⟨_, Lib.hid rfl⟩
  rw [HR.out]
  by_cases hok : (a.ok && b.ok) = true
  · have HB : Hid (Cx.both a b = 0) := Lib.hid (by unfold Cx.both; rw [if_pos hok])
    have hR := HR.out
    unfold Cx.sub at hR
    rw [if_pos hok] at hR
    simp only [Bool.and_eq_true] at hok
    obtain ⟨ha, hb⟩ := hok
    have ba := Cx.bounds ha
    have bb := Cx.bounds hb
    obtain ⟨p1, p2⟩ := mul_bd (x := a.re) (y := b.den) 1000000000 1000000000 (by omega) (by omega) (by omega) (by omega)
    obtain ⟨p3, p4⟩ := mul_bd (x := b.re) (y := a.den) 1000000000 1000000000 (by omega) (by omega) (by omega) (by omega)
    obtain ⟨p5, p6⟩ := mul_bd (x := a.im) (y := b.den) 1000000000 1000000000 (by omega) (by omega) (by omega) (by omega)
    obtain ⟨p7, p8⟩ := mul_bd (x := b.im) (y := a.den) 1000000000 1000000000 (by omega) (by omega) (by omega) (by omega)
    obtain ⟨p9, p10⟩ := mul_bd (x := a.den) (y := b.den) 1000000000 1000000000 (by omega) (by omega) (by omega) (by omega)
    have p11 : 0 < a.den * b.den := Int.mul_pos (by omega) (by omega)
    simp only [Int.reduceMul, Int.reduceNeg] at p1 p2 p3 p4 p5 p6 p7 p8 p9 p10
    clear ha hb
    have HRed := Lib.hid hR
    clear hR
    go_enter Try.func7, Try.ntmps7
    go_wp2_with fail
    refine (both_any a b _).mono ?_; rintro e1 w1 ⟨rfl, hb1⟩; obtain ⟨hc1, hf1⟩ := bcell hb1; have hs1 := hb1.size; (try simp at hs1); have z1_w_0 : w.heap.size < w1.heap.size := (by omega); have y1_w_0 : w.heap.size ≤ w1.heap.size := (by omega); have z1_w_1 : w.heap.size + 1 < w1.heap.size := (by omega); have y1_w_1 : w.heap.size + 1 ≤ w1.heap.size := (by omega); have z1_w_2 : w.heap.size + 2 < w1.heap.size := (by omega); have y1_w_2 : w.heap.size + 2 ≤ w1.heap.size := (by omega)
    have k1_a0 : w1.cell? ⟨w.heap.size, 0, none⟩ = some (.int .i64 a.re) := carry hb1 (by go_simp); have k1_a1 : w1.cell? ⟨w.heap.size, 1, none⟩ = some (.int .i64 a.im) := carry hb1 (by go_simp); have k1_a2 : w1.cell? ⟨w.heap.size, 2, none⟩ = some (.int .i64 a.den) := carry hb1 (by go_simp); have k1_b0 : w1.cell? ⟨w.heap.size + 1, 0, none⟩ = some (.int .i64 b.re) := carry hb1 (by go_simp); have k1_b1 : w1.cell? ⟨w.heap.size + 1, 1, none⟩ = some (.int .i64 b.im) := carry hb1 (by go_simp); have k1_b2 : w1.cell? ⟨w.heap.size + 1, 2, none⟩ = some (.int .i64 b.den) := carry hb1 (by go_simp); have k1_r0 : w1.cell? ⟨w.heap.size + 2, 0, none⟩ = some (.int .i64 0) := carry hb1 (by go_simp); have k1_r1 : w1.cell? ⟨w.heap.size + 2, 1, none⟩ = some (.int .i64 0) := carry hb1 (by go_simp); have k1_r2 : w1.cell? ⟨w.heap.size + 2, 2, none⟩ = some (.int .i64 0) := carry hb1 (by go_simp)
    rw [HB.out]
    go_wp2_with fail
    refine (reduced_any _ _ _ (by omega) (by omega) (by omega) (by omega) _).mono ?_; rintro e2 w2 ⟨rfl, hb2⟩; obtain ⟨hc2, hf2⟩ := bcell hb2; have hs2 := hb2.size; (try simp at hs2); have z2_w_0 : w.heap.size < w2.heap.size := (by omega); have y2_w_0 : w.heap.size ≤ w2.heap.size := (by omega); have z2_w_1 : w.heap.size + 1 < w2.heap.size := (by omega); have y2_w_1 : w.heap.size + 1 ≤ w2.heap.size := (by omega); have z2_w_2 : w.heap.size + 2 < w2.heap.size := (by omega); have y2_w_2 : w.heap.size + 2 ≤ w2.heap.size := (by omega)
    have k2_a0 : w2.cell? ⟨w.heap.size, 0, none⟩ = some (.int .i64 a.re) := carry hb2 (by go_simp); have k2_a1 : w2.cell? ⟨w.heap.size, 1, none⟩ = some (.int .i64 a.im) := carry hb2 (by go_simp); have k2_a2 : w2.cell? ⟨w.heap.size, 2, none⟩ = some (.int .i64 a.den) := carry hb2 (by go_simp); have k2_b0 : w2.cell? ⟨w.heap.size + 1, 0, none⟩ = some (.int .i64 b.re) := carry hb2 (by go_simp); have k2_b1 : w2.cell? ⟨w.heap.size + 1, 1, none⟩ = some (.int .i64 b.im) := carry hb2 (by go_simp); have k2_b2 : w2.cell? ⟨w.heap.size + 1, 2, none⟩ = some (.int .i64 b.den) := carry hb2 (by go_simp); have k2_r0 : w2.cell? ⟨w.heap.size + 2, 0, none⟩ = some (.int .i64 0) := carry hb2 (by go_simp); have k2_r1 : w2.cell? ⟨w.heap.size + 2, 1, none⟩ = some (.int .i64 0) := carry hb2 (by go_simp); have k2_r2 : w2.cell? ⟨w.heap.size + 2, 2, none⟩ = some (.int .i64 0) := carry hb2 (by go_simp)
    rw [HRed.out]
    go_wp2_with fail
    exact bodyPost_ret (v := .tuple #[.agg #[.int .i64 (R.1).re, .int .i64 (R.1).im, .int .i64 (R.1).den], .int .i64 R.2]) (by simp only [results, Try.results7]; go_simp) rfl ⟨rfl, by repeat (first | exact Below.refl _ _ | (refine b_set ?_ (by omega) _) | (refine b_alloc ?_ _) | (refine b_drew ?_) | (refine b_drewN ?_ _) | (refine b_then ?_ (by assumption)))⟩
  · have HB : Hid (Cx.both a b = 8) := Lib.hid (by unfold Cx.both; rw [if_neg hok])
    have hR := HR.out
    unfold Cx.sub at hR
    rw [if_neg hok] at hR
    subst hR
    clear hok
    go_enter Try.func7, Try.ntmps7
    go_wp2_with fail
    refine (both_any a b _).mono ?_; rintro e1 w1 ⟨rfl, hb1⟩; obtain ⟨hc1, hf1⟩ := bcell hb1; have hs1 := hb1.size; (try simp at hs1); have z1_w_0 : w.heap.size < w1.heap.size := (by omega); have y1_w_0 : w.heap.size ≤ w1.heap.size := (by omega); have z1_w_1 : w.heap.size + 1 < w1.heap.size := (by omega); have y1_w_1 : w.heap.size + 1 ≤ w1.heap.size := (by omega); have z1_w_2 : w.heap.size + 2 < w1.heap.size := (by omega); have y1_w_2 : w.heap.size + 2 ≤ w1.heap.size := (by omega)
    have k1_a0 : w1.cell? ⟨w.heap.size, 0, none⟩ = some (.int .i64 a.re) := carry hb1 (by go_simp); have k1_a1 : w1.cell? ⟨w.heap.size, 1, none⟩ = some (.int .i64 a.im) := carry hb1 (by go_simp); have k1_a2 : w1.cell? ⟨w.heap.size, 2, none⟩ = some (.int .i64 a.den) := carry hb1 (by go_simp); have k1_b0 : w1.cell? ⟨w.heap.size + 1, 0, none⟩ = some (.int .i64 b.re) := carry hb1 (by go_simp); have k1_b1 : w1.cell? ⟨w.heap.size + 1, 1, none⟩ = some (.int .i64 b.im) := carry hb1 (by go_simp); have k1_b2 : w1.cell? ⟨w.heap.size + 1, 2, none⟩ = some (.int .i64 b.den) := carry hb1 (by go_simp); have k1_r0 : w1.cell? ⟨w.heap.size + 2, 0, none⟩ = some (.int .i64 0) := carry hb1 (by go_simp); have k1_r1 : w1.cell? ⟨w.heap.size + 2, 1, none⟩ = some (.int .i64 0) := carry hb1 (by go_simp); have k1_r2 : w1.cell? ⟨w.heap.size + 2, 2, none⟩ = some (.int .i64 0) := carry hb1 (by go_simp)
    rw [HB.out]
    go_wp2_with fail
    exact bodyPost_ret (v := .tuple #[.agg #[.int .i64 0, .int .i64 0, .int .i64 0], .int .i64 8]) (by simp only [results, Try.results7]; go_simp) rfl ⟨rfl, by repeat (first | exact Below.refl _ _ | (refine b_set ?_ (by omega) _) | (refine b_alloc ?_ _) | (refine b_drew ?_) | (refine b_drewN ?_ _) | (refine b_then ?_ (by assumption)))⟩

set_option maxHeartbeats 4000000 in
theorem mul_any (a b : Cx) (w : World) :
    Calls Try.prog 9 #[.agg #[.int .i64 (a).re, .int .i64 (a).im, .int .i64 (a).den], .agg #[.int .i64 (b).re, .int .i64 (b).im, .int .i64 (b).den]] w fun e w' => e = .returned (.tuple #[.agg #[.int .i64 ((Cx.mul a b).1).re, .int .i64 ((Cx.mul a b).1).im, .int .i64 ((Cx.mul a b).1).den], .int .i64 (Cx.mul a b).2]) ∧ Below w.heap.size w w' := by
  obtain ⟨R, HR⟩ : ∃ R, Hid (Cx.mul a b = R) := ⟨_, Lib.hid rfl⟩
  rw [HR.out]
  by_cases hok : (a.ok && b.ok) = true
  · have HB : Hid (Cx.both a b = 0) := Lib.hid (by unfold Cx.both; rw [if_pos hok])
    have hR := HR.out
    unfold Cx.mul at hR
    rw [if_pos hok] at hR
    simp only [Bool.and_eq_true] at hok
    obtain ⟨ha, hb⟩ := hok
    have ba := Cx.bounds ha
    have bb := Cx.bounds hb
    obtain ⟨p1, p2⟩ := mul_bd (x := a.re) (y := b.re) 1000000000 1000000000 (by omega) (by omega) (by omega) (by omega)
    obtain ⟨p3, p4⟩ := mul_bd (x := a.im) (y := b.im) 1000000000 1000000000 (by omega) (by omega) (by omega) (by omega)
    obtain ⟨p5, p6⟩ := mul_bd (x := a.re) (y := b.im) 1000000000 1000000000 (by omega) (by omega) (by omega) (by omega)
    obtain ⟨p7, p8⟩ := mul_bd (x := a.im) (y := b.re) 1000000000 1000000000 (by omega) (by omega) (by omega) (by omega)
    obtain ⟨p9, p10⟩ := mul_bd (x := a.den) (y := b.den) 1000000000 1000000000 (by omega) (by omega) (by omega) (by omega)
    have p11 : 0 < a.den * b.den := Int.mul_pos (by omega) (by omega)
    simp only [Int.reduceMul, Int.reduceNeg] at p1 p2 p3 p4 p5 p6 p7 p8 p9 p10
    clear ha hb
    have HRed := Lib.hid hR
    clear hR
    go_enter Try.func9, Try.ntmps9
    go_wp2_with fail
    refine (both_any a b _).mono ?_; rintro e1 w1 ⟨rfl, hb1⟩; obtain ⟨hc1, hf1⟩ := bcell hb1; have hs1 := hb1.size; (try simp at hs1); have z1_w_0 : w.heap.size < w1.heap.size := (by omega); have y1_w_0 : w.heap.size ≤ w1.heap.size := (by omega); have z1_w_1 : w.heap.size + 1 < w1.heap.size := (by omega); have y1_w_1 : w.heap.size + 1 ≤ w1.heap.size := (by omega); have z1_w_2 : w.heap.size + 2 < w1.heap.size := (by omega); have y1_w_2 : w.heap.size + 2 ≤ w1.heap.size := (by omega)
    have k1_a0 : w1.cell? ⟨w.heap.size, 0, none⟩ = some (.int .i64 a.re) := carry hb1 (by go_simp); have k1_a1 : w1.cell? ⟨w.heap.size, 1, none⟩ = some (.int .i64 a.im) := carry hb1 (by go_simp); have k1_a2 : w1.cell? ⟨w.heap.size, 2, none⟩ = some (.int .i64 a.den) := carry hb1 (by go_simp); have k1_b0 : w1.cell? ⟨w.heap.size + 1, 0, none⟩ = some (.int .i64 b.re) := carry hb1 (by go_simp); have k1_b1 : w1.cell? ⟨w.heap.size + 1, 1, none⟩ = some (.int .i64 b.im) := carry hb1 (by go_simp); have k1_b2 : w1.cell? ⟨w.heap.size + 1, 2, none⟩ = some (.int .i64 b.den) := carry hb1 (by go_simp); have k1_r0 : w1.cell? ⟨w.heap.size + 2, 0, none⟩ = some (.int .i64 0) := carry hb1 (by go_simp); have k1_r1 : w1.cell? ⟨w.heap.size + 2, 1, none⟩ = some (.int .i64 0) := carry hb1 (by go_simp); have k1_r2 : w1.cell? ⟨w.heap.size + 2, 2, none⟩ = some (.int .i64 0) := carry hb1 (by go_simp)
    rw [HB.out]
    go_wp2_with fail
    refine (reduced_any _ _ _ (by omega) (by omega) (by omega) (by omega) _).mono ?_; rintro e2 w2 ⟨rfl, hb2⟩; obtain ⟨hc2, hf2⟩ := bcell hb2; have hs2 := hb2.size; (try simp at hs2); have z2_w_0 : w.heap.size < w2.heap.size := (by omega); have y2_w_0 : w.heap.size ≤ w2.heap.size := (by omega); have z2_w_1 : w.heap.size + 1 < w2.heap.size := (by omega); have y2_w_1 : w.heap.size + 1 ≤ w2.heap.size := (by omega); have z2_w_2 : w.heap.size + 2 < w2.heap.size := (by omega); have y2_w_2 : w.heap.size + 2 ≤ w2.heap.size := (by omega)
    have k2_a0 : w2.cell? ⟨w.heap.size, 0, none⟩ = some (.int .i64 a.re) := carry hb2 (by go_simp); have k2_a1 : w2.cell? ⟨w.heap.size, 1, none⟩ = some (.int .i64 a.im) := carry hb2 (by go_simp); have k2_a2 : w2.cell? ⟨w.heap.size, 2, none⟩ = some (.int .i64 a.den) := carry hb2 (by go_simp); have k2_b0 : w2.cell? ⟨w.heap.size + 1, 0, none⟩ = some (.int .i64 b.re) := carry hb2 (by go_simp); have k2_b1 : w2.cell? ⟨w.heap.size + 1, 1, none⟩ = some (.int .i64 b.im) := carry hb2 (by go_simp); have k2_b2 : w2.cell? ⟨w.heap.size + 1, 2, none⟩ = some (.int .i64 b.den) := carry hb2 (by go_simp); have k2_r0 : w2.cell? ⟨w.heap.size + 2, 0, none⟩ = some (.int .i64 0) := carry hb2 (by go_simp); have k2_r1 : w2.cell? ⟨w.heap.size + 2, 1, none⟩ = some (.int .i64 0) := carry hb2 (by go_simp); have k2_r2 : w2.cell? ⟨w.heap.size + 2, 2, none⟩ = some (.int .i64 0) := carry hb2 (by go_simp)
    rw [HRed.out]
    go_wp2_with fail
    exact bodyPost_ret (v := .tuple #[.agg #[.int .i64 (R.1).re, .int .i64 (R.1).im, .int .i64 (R.1).den], .int .i64 R.2]) (by simp only [results, Try.results9]; go_simp) rfl ⟨rfl, by repeat (first | exact Below.refl _ _ | (refine b_set ?_ (by omega) _) | (refine b_alloc ?_ _) | (refine b_drew ?_) | (refine b_drewN ?_ _) | (refine b_then ?_ (by assumption)))⟩
  · have HB : Hid (Cx.both a b = 8) := Lib.hid (by unfold Cx.both; rw [if_neg hok])
    have hR := HR.out
    unfold Cx.mul at hR
    rw [if_neg hok] at hR
    subst hR
    clear hok
    go_enter Try.func9, Try.ntmps9
    go_wp2_with fail
    refine (both_any a b _).mono ?_; rintro e1 w1 ⟨rfl, hb1⟩; obtain ⟨hc1, hf1⟩ := bcell hb1; have hs1 := hb1.size; (try simp at hs1); have z1_w_0 : w.heap.size < w1.heap.size := (by omega); have y1_w_0 : w.heap.size ≤ w1.heap.size := (by omega); have z1_w_1 : w.heap.size + 1 < w1.heap.size := (by omega); have y1_w_1 : w.heap.size + 1 ≤ w1.heap.size := (by omega); have z1_w_2 : w.heap.size + 2 < w1.heap.size := (by omega); have y1_w_2 : w.heap.size + 2 ≤ w1.heap.size := (by omega)
    have k1_a0 : w1.cell? ⟨w.heap.size, 0, none⟩ = some (.int .i64 a.re) := carry hb1 (by go_simp); have k1_a1 : w1.cell? ⟨w.heap.size, 1, none⟩ = some (.int .i64 a.im) := carry hb1 (by go_simp); have k1_a2 : w1.cell? ⟨w.heap.size, 2, none⟩ = some (.int .i64 a.den) := carry hb1 (by go_simp); have k1_b0 : w1.cell? ⟨w.heap.size + 1, 0, none⟩ = some (.int .i64 b.re) := carry hb1 (by go_simp); have k1_b1 : w1.cell? ⟨w.heap.size + 1, 1, none⟩ = some (.int .i64 b.im) := carry hb1 (by go_simp); have k1_b2 : w1.cell? ⟨w.heap.size + 1, 2, none⟩ = some (.int .i64 b.den) := carry hb1 (by go_simp); have k1_r0 : w1.cell? ⟨w.heap.size + 2, 0, none⟩ = some (.int .i64 0) := carry hb1 (by go_simp); have k1_r1 : w1.cell? ⟨w.heap.size + 2, 1, none⟩ = some (.int .i64 0) := carry hb1 (by go_simp); have k1_r2 : w1.cell? ⟨w.heap.size + 2, 2, none⟩ = some (.int .i64 0) := carry hb1 (by go_simp)
    rw [HB.out]
    go_wp2_with fail
    exact bodyPost_ret (v := .tuple #[.agg #[.int .i64 0, .int .i64 0, .int .i64 0], .int .i64 8]) (by simp only [results, Try.results9]; go_simp) rfl ⟨rfl, by repeat (first | exact Below.refl _ _ | (refine b_set ?_ (by omega) _) | (refine b_alloc ?_ _) | (refine b_drew ?_) | (refine b_drewN ?_ _) | (refine b_then ?_ (by assumption)))⟩

end Go.Proofs.Ytdjdjbopddkndaa.A
