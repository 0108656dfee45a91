/- The order of rays of layer 25. -/
import Derived.Test.YtdjdjbopddkndaaProg
import Derived.Below
import Derived.Deep.Draws
import Derived.OwnWalk
import Derived.Tactics
import Derived.WalkKit
import Derived.KernelRfl
import Derived.Deep.LoopGhost
import Derived.Deep.QuietTactic
import Derived.BigQuiet
import Derived.Deep.DeepCutAuto
import Derived.Deep.RegionHeld3
import Derived.StillTailTactics
import Derived.WalkLawsBesides
import Derived.Lib.Hide
import Derived.Outline
import Derived.BigRegion
import Derived.Test.YtdjdjbopddkndaaMath
import Derived.Test.YtdjdjbopddkndaaLib
import Derived.Test.YtdjdjbopddkndaaCx1
import Derived.Test.YtdjdjbopddkndaaCx2
import Derived.Test.YtdjdjbopddkndaaCx3
import Derived.Test.YtdjdjbopddkndaaCx6
import Derived.Test.YtdjdjbopddkndaaCx10
import Derived.Test.YtdjdjbopddkndaaCxM4
import Derived.Test.YtdjdjbopddkndaaBits
namespace Go.Proofs.Ytdjdjbopddkndaa.A
open Go.RowKit Go.BigFrame Go.Proofs.Ytdjdjbopddkndaa.M
set_option linter.unusedVariables false
set_option linter.unusedSimpArgs false

set_option maxHeartbeats 4000000 in
theorem order_any (a b : Cx) (w : World) :
    Calls Try.prog 25 #[.agg #[.int .i64 (a).re, .int .i64 (a).im, .int .i64 (a).den], .agg #[.int .i64 (b).re, .int .i64 (b).im, .int .i64 (b).den]] w fun e w' => e = .returned (.tuple #[.int .i64 (Cx.order a b).1, .int .i64 (Cx.order a b).2]) ∧ Below w.heap.size w w' := by
  obtain ⟨R, HR⟩ : ∃ R, Hid (Cx.order a b = R) := ⟨_, Lib.hid rfl⟩
  rw [HR.out]
  have hR := HR.out
  unfold Cx.order at hR
  by_cases hok : (a.ok && b.ok) = true
  · rw [if_pos hok] at hR
    have HB : Hid (Cx.both a b = 0) := Lib.hid (by unfold Cx.both; rw [if_pos hok])
    simp only [Bool.and_eq_true] at hok
    obtain ⟨ha, hb⟩ := hok
    have ba := Cx.bounds ha
    have bb := Cx.bounds hb
    clear ha hb
    obtain ⟨za, HZA⟩ : ∃ z, Hid (a.isZero = z) := ⟨_, Lib.hid rfl⟩
    obtain ⟨zb, HZB⟩ : ∃ z, Hid (b.isZero = z) := ⟨_, Lib.hid rfl⟩
    obtain ⟨ua, HUA⟩ : ∃ z, Hid (a.upper = z) := ⟨_, Lib.hid rfl⟩
    obtain ⟨ub, HUB⟩ : ∃ z, Hid (b.upper = z) := ⟨_, Lib.hid rfl⟩
    rw [HZA.out, HZB.out, HUA.out, HUB.out] at hR
    obtain ⟨p1, p2⟩ := mul_bd (x := a.im) (y := b.re) 1000000000 1000000000 (by omega) (by omega) (by omega) (by omega)
    obtain ⟨p3, p4⟩ := mul_bd (x := a.re) (y := b.im) 1000000000 1000000000 (by omega) (by omega) (by omega) (by omega)
    simp only [Int.reduceMul, Int.reduceNeg] at p1 p2 p3 p4
    have HRR := Lib.hid hR
    clear hR
    go_enter Try.func25, Try.ntmps25
    go_wp2_with fail
    refine (both_any a b _).mono ?_; rintro e1 w1 ⟨rfl, hb1⟩; have k1_a0 : w1.cell? ⟨w.heap.size, 0, none⟩ = some (.int .i64 a.re) := carry hb1 (by go_simp); have f1_a0 : w1.frozen? ⟨w.heap.size, 0, none⟩ = false := carryf hb1 (v := .int .i64 a.re) (by go_simp) (by go_simp); have k1_a1 : w1.cell? ⟨w.heap.size, 1, none⟩ = some (.int .i64 a.im) := carry hb1 (by go_simp); have f1_a1 : w1.frozen? ⟨w.heap.size, 1, none⟩ = false := carryf hb1 (v := .int .i64 a.im) (by go_simp) (by go_simp); have k1_a2 : w1.cell? ⟨w.heap.size, 2, none⟩ = some (.int .i64 a.den) := carry hb1 (by go_simp); have f1_a2 : w1.frozen? ⟨w.heap.size, 2, none⟩ = false := carryf hb1 (v := .int .i64 a.den) (by go_simp) (by go_simp); have z1_a : w.heap.size < w1.heap.size := World.block_lt_of_cell? _ _ k1_a0; have y1_a : w.heap.size ≤ w1.heap.size := Nat.le_of_lt z1_a; have k1_b0 : w1.cell? ⟨w.heap.size + 1, 0, none⟩ = some (.int .i64 b.re) := carry hb1 (by go_simp); have f1_b0 : w1.frozen? ⟨w.heap.size + 1, 0, none⟩ = false := carryf hb1 (v := .int .i64 b.re) (by go_simp) (by go_simp); have k1_b1 : w1.cell? ⟨w.heap.size + 1, 1, none⟩ = some (.int .i64 b.im) := carry hb1 (by go_simp); have f1_b1 : w1.frozen? ⟨w.heap.size + 1, 1, none⟩ = false := carryf hb1 (v := .int .i64 b.im) (by go_simp) (by go_simp); have k1_b2 : w1.cell? ⟨w.heap.size + 1, 2, none⟩ = some (.int .i64 b.den) := carry hb1 (by go_simp); have f1_b2 : w1.frozen? ⟨w.heap.size + 1, 2, none⟩ = false := carryf hb1 (v := .int .i64 b.den) (by go_simp) (by go_simp); have z1_b : w.heap.size + 1 < w1.heap.size := World.block_lt_of_cell? _ _ k1_b0; have y1_b : w.heap.size + 1 ≤ w1.heap.size := Nat.le_of_lt z1_b; have HB1 : Hid (Below w.heap.size w w1) := Lib.hid (by repeat (first | exact Below.refl _ _ | (exact Hid.out (by assumption)) | (refine b_set ?_ (by omega) _) | (refine b_alloc ?_ _) | (refine b_drew ?_) | (refine b_drewN ?_ _) | (refine b_then ?_ (by assumption)))); clear hb1
    rw [HB.out]
    go_wp2_with fail
    refine (zero_any a _).mono ?_; rintro e2 w2 ⟨rfl, hb2⟩; have k2_a0 : w2.cell? ⟨w.heap.size, 0, none⟩ = some (.int .i64 a.re) := carry hb2 (by go_simp); have f2_a0 : w2.frozen? ⟨w.heap.size, 0, none⟩ = false := carryf hb2 (v := .int .i64 a.re) (by go_simp) (by go_simp); have k2_a1 : w2.cell? ⟨w.heap.size, 1, none⟩ = some (.int .i64 a.im) := carry hb2 (by go_simp); have f2_a1 : w2.frozen? ⟨w.heap.size, 1, none⟩ = false := carryf hb2 (v := .int .i64 a.im) (by go_simp) (by go_simp); have k2_a2 : w2.cell? ⟨w.heap.size, 2, none⟩ = some (.int .i64 a.den) := carry hb2 (by go_simp); have f2_a2 : w2.frozen? ⟨w.heap.size, 2, none⟩ = false := carryf hb2 (v := .int .i64 a.den) (by go_simp) (by go_simp); have z2_a : w.heap.size < w2.heap.size := World.block_lt_of_cell? _ _ k2_a0; have y2_a : w.heap.size ≤ w2.heap.size := Nat.le_of_lt z2_a; have k2_b0 : w2.cell? ⟨w.heap.size + 1, 0, none⟩ = some (.int .i64 b.re) := carry hb2 (by go_simp); have f2_b0 : w2.frozen? ⟨w.heap.size + 1, 0, none⟩ = false := carryf hb2 (v := .int .i64 b.re) (by go_simp) (by go_simp); have k2_b1 : w2.cell? ⟨w.heap.size + 1, 1, none⟩ = some (.int .i64 b.im) := carry hb2 (by go_simp); have f2_b1 : w2.frozen? ⟨w.heap.size + 1, 1, none⟩ = false := carryf hb2 (v := .int .i64 b.im) (by go_simp) (by go_simp); have k2_b2 : w2.cell? ⟨w.heap.size + 1, 2, none⟩ = some (.int .i64 b.den) := carry hb2 (by go_simp); have f2_b2 : w2.frozen? ⟨w.heap.size + 1, 2, none⟩ = false := carryf hb2 (v := .int .i64 b.den) (by go_simp) (by go_simp); have z2_b : w.heap.size + 1 < w2.heap.size := World.block_lt_of_cell? _ _ k2_b0; have y2_b : w.heap.size + 1 ≤ w2.heap.size := Nat.le_of_lt z2_b; have HB2 : Hid (Below w.heap.size w w2) := Lib.hid (by repeat (first | exact Below.refl _ _ | (exact Hid.out (by assumption)) | (refine b_set ?_ (by omega) _) | (refine b_alloc ?_ _) | (refine b_drew ?_) | (refine b_drewN ?_ _) | (refine b_then ?_ (by assumption)))); clear hb2; (try clear z1_a y1_a k1_a0 f1_a0 k1_a1 f1_a1 k1_a2 f1_a2); (try clear z1_b y1_b k1_b0 f1_b0 k1_b1 f1_b1 k1_b2 f1_b2)
    rw [HZA.out]
    cases za
    · go_wp2_with fail
      refine (zero_any b _).mono ?_; rintro e3 w3 ⟨rfl, hb3⟩; have k3_a0 : w3.cell? ⟨w.heap.size, 0, none⟩ = some (.int .i64 a.re) := carry hb3 (by go_simp); have f3_a0 : w3.frozen? ⟨w.heap.size, 0, none⟩ = false := carryf hb3 (v := .int .i64 a.re) (by go_simp) (by go_simp); have k3_a1 : w3.cell? ⟨w.heap.size, 1, none⟩ = some (.int .i64 a.im) := carry hb3 (by go_simp); have f3_a1 : w3.frozen? ⟨w.heap.size, 1, none⟩ = false := carryf hb3 (v := .int .i64 a.im) (by go_simp) (by go_simp); have k3_a2 : w3.cell? ⟨w.heap.size, 2, none⟩ = some (.int .i64 a.den) := carry hb3 (by go_simp); have f3_a2 : w3.frozen? ⟨w.heap.size, 2, none⟩ = false := carryf hb3 (v := .int .i64 a.den) (by go_simp) (by go_simp); have z3_a : w.heap.size < w3.heap.size := World.block_lt_of_cell? _ _ k3_a0; have y3_a : w.heap.size ≤ w3.heap.size := Nat.le_of_lt z3_a; have k3_b0 : w3.cell? ⟨w.heap.size + 1, 0, none⟩ = some (.int .i64 b.re) := carry hb3 (by go_simp); have f3_b0 : w3.frozen? ⟨w.heap.size + 1, 0, none⟩ = false := carryf hb3 (v := .int .i64 b.re) (by go_simp) (by go_simp); have k3_b1 : w3.cell? ⟨w.heap.size + 1, 1, none⟩ = some (.int .i64 b.im) := carry hb3 (by go_simp); have f3_b1 : w3.frozen? ⟨w.heap.size + 1, 1, none⟩ = false := carryf hb3 (v := .int .i64 b.im) (by go_simp) (by go_simp); have k3_b2 : w3.cell? ⟨w.heap.size + 1, 2, none⟩ = some (.int .i64 b.den) := carry hb3 (by go_simp); have f3_b2 : w3.frozen? ⟨w.heap.size + 1, 2, none⟩ = false := carryf hb3 (v := .int .i64 b.den) (by go_simp) (by go_simp); have z3_b : w.heap.size + 1 < w3.heap.size := World.block_lt_of_cell? _ _ k3_b0; have y3_b : w.heap.size + 1 ≤ w3.heap.size := Nat.le_of_lt z3_b; have HB3 : Hid (Below w.heap.size w w3) := Lib.hid (by repeat (first | exact Below.refl _ _ | (exact Hid.out (by assumption)) | (refine b_set ?_ (by omega) _) | (refine b_alloc ?_ _) | (refine b_drew ?_) | (refine b_drewN ?_ _) | (refine b_then ?_ (by assumption)))); clear hb3; (try clear z2_a y2_a k2_a0 f2_a0 k2_a1 f2_a1 k2_a2 f2_a2); (try clear z2_b y2_b k2_b0 f2_b0 k2_b1 f2_b1 k2_b2 f2_b2)
      rw [HZB.out]
      cases zb
      · go_wp2_with fail
        go_region_held3 (fun w' => w'.cell? ⟨w.heap.size, 0, none⟩ = some (.int .i64 a.re) ∧ w'.cell? ⟨w.heap.size, 1, none⟩ = some (.int .i64 a.im) ∧ w'.cell? ⟨w.heap.size, 2, none⟩ = some (.int .i64 a.den) ∧ w'.cell? ⟨w.heap.size + 1, 0, none⟩ = some (.int .i64 b.re) ∧ w'.cell? ⟨w.heap.size + 1, 1, none⟩ = some (.int .i64 b.im) ∧ w'.cell? ⟨w.heap.size + 1, 2, none⟩ = some (.int .i64 b.den)) (first | exact ⟨k4_a0, k4_a1, k4_a2, k4_b0, k4_b1, k4_b2⟩ | go_keep) (first | (go_at_call 38; refine (upper_any _ _).mono ?_; rintro e4 w4 ⟨rfl, hb4⟩; have k4_a0 : w4.cell? ⟨w.heap.size, 0, none⟩ = some (.int .i64 a.re) := carry hb4 (by go_simp); have f4_a0 : w4.frozen? ⟨w.heap.size, 0, none⟩ = false := carryf hb4 (v := .int .i64 a.re) (by go_simp) (by go_simp); have k4_a1 : w4.cell? ⟨w.heap.size, 1, none⟩ = some (.int .i64 a.im) := carry hb4 (by go_simp); have f4_a1 : w4.frozen? ⟨w.heap.size, 1, none⟩ = false := carryf hb4 (v := .int .i64 a.im) (by go_simp) (by go_simp); have k4_a2 : w4.cell? ⟨w.heap.size, 2, none⟩ = some (.int .i64 a.den) := carry hb4 (by go_simp); have f4_a2 : w4.frozen? ⟨w.heap.size, 2, none⟩ = false := carryf hb4 (v := .int .i64 a.den) (by go_simp) (by go_simp); have z4_a : w.heap.size < w4.heap.size := World.block_lt_of_cell? _ _ k4_a0; have y4_a : w.heap.size ≤ w4.heap.size := Nat.le_of_lt z4_a; have k4_b0 : w4.cell? ⟨w.heap.size + 1, 0, none⟩ = some (.int .i64 b.re) := carry hb4 (by go_simp); have f4_b0 : w4.frozen? ⟨w.heap.size + 1, 0, none⟩ = false := carryf hb4 (v := .int .i64 b.re) (by go_simp) (by go_simp); have k4_b1 : w4.cell? ⟨w.heap.size + 1, 1, none⟩ = some (.int .i64 b.im) := carry hb4 (by go_simp); have f4_b1 : w4.frozen? ⟨w.heap.size + 1, 1, none⟩ = false := carryf hb4 (v := .int .i64 b.im) (by go_simp) (by go_simp); have k4_b2 : w4.cell? ⟨w.heap.size + 1, 2, none⟩ = some (.int .i64 b.den) := carry hb4 (by go_simp); have f4_b2 : w4.frozen? ⟨w.heap.size + 1, 2, none⟩ = false := carryf hb4 (v := .int .i64 b.den) (by go_simp) (by go_simp); have z4_b : w.heap.size + 1 < w4.heap.size := World.block_lt_of_cell? _ _ k4_b0; have y4_b : w.heap.size + 1 ≤ w4.heap.size := Nat.le_of_lt z4_b; have HB4 : Hid (Below w.heap.size w w4) := Lib.hid (by repeat (first | exact Below.refl _ _ | (exact Hid.out (by assumption)) | (refine b_set ?_ (by omega) _) | (refine b_alloc ?_ _) | (refine b_drew ?_) | (refine b_drewN ?_ _) | (refine b_then ?_ (by assumption)))); clear hb4; first | rw [HUA.out] | rw [HUB.out]))
        cases ua
        · cases ub
          · go_wp2_with fail
            refine (compare_any _ _ _).mono ?_
            rintro e6 w6 ⟨rfl, rfl⟩
            go_wp2_with fail
            go_ret2
            exact ⟨by rw [← HRR.out]; rfl, by repeat (first | exact Below.refl _ _ | (exact Hid.out (by assumption)) | (refine b_set ?_ (by omega) _) | (refine b_alloc ?_ _) | (refine b_drew ?_) | (refine b_drewN ?_ _) | (refine b_then ?_ (by assumption)))⟩
          · go_wp2_with fail
            refine (upper_any a _).mono ?_; rintro e6 w6 ⟨rfl, hb6⟩; have k6_a0 : w6.cell? ⟨w.heap.size, 0, none⟩ = some (.int .i64 a.re) := carry hb6 (by go_simp); have f6_a0 : w6.frozen? ⟨w.heap.size, 0, none⟩ = false := carryf hb6 (v := .int .i64 a.re) (by go_simp) (by go_simp); have k6_a1 : w6.cell? ⟨w.heap.size, 1, none⟩ = some (.int .i64 a.im) := carry hb6 (by go_simp); have f6_a1 : w6.frozen? ⟨w.heap.size, 1, none⟩ = false := carryf hb6 (v := .int .i64 a.im) (by go_simp) (by go_simp); have k6_a2 : w6.cell? ⟨w.heap.size, 2, none⟩ = some (.int .i64 a.den) := carry hb6 (by go_simp); have f6_a2 : w6.frozen? ⟨w.heap.size, 2, none⟩ = false := carryf hb6 (v := .int .i64 a.den) (by go_simp) (by go_simp); have z6_a : w.heap.size < w6.heap.size := World.block_lt_of_cell? _ _ k6_a0; have y6_a : w.heap.size ≤ w6.heap.size := Nat.le_of_lt z6_a; have k6_b0 : w6.cell? ⟨w.heap.size + 1, 0, none⟩ = some (.int .i64 b.re) := carry hb6 (by go_simp); have f6_b0 : w6.frozen? ⟨w.heap.size + 1, 0, none⟩ = false := carryf hb6 (v := .int .i64 b.re) (by go_simp) (by go_simp); have k6_b1 : w6.cell? ⟨w.heap.size + 1, 1, none⟩ = some (.int .i64 b.im) := carry hb6 (by go_simp); have f6_b1 : w6.frozen? ⟨w.heap.size + 1, 1, none⟩ = false := carryf hb6 (v := .int .i64 b.im) (by go_simp) (by go_simp); have k6_b2 : w6.cell? ⟨w.heap.size + 1, 2, none⟩ = some (.int .i64 b.den) := carry hb6 (by go_simp); have f6_b2 : w6.frozen? ⟨w.heap.size + 1, 2, none⟩ = false := carryf hb6 (v := .int .i64 b.den) (by go_simp) (by go_simp); have z6_b : w.heap.size + 1 < w6.heap.size := World.block_lt_of_cell? _ _ k6_b0; have y6_b : w.heap.size + 1 ≤ w6.heap.size := Nat.le_of_lt z6_b; have HB6 : Hid (Below w.heap.size w w6) := Lib.hid (by repeat (first | exact Below.refl _ _ | (exact Hid.out (by assumption)) | (refine b_set ?_ (by omega) _) | (refine b_alloc ?_ _) | (refine b_drew ?_) | (refine b_drewN ?_ _) | (refine b_then ?_ (by assumption)))); clear hb6
            rw [HUA.out]
            go_wp2_with fail
            go_ret2
            exact ⟨by rw [← HRR.out]; rfl, by repeat (first | exact Below.refl _ _ | (exact Hid.out (by assumption)) | (refine b_set ?_ (by omega) _) | (refine b_alloc ?_ _) | (refine b_drew ?_) | (refine b_drewN ?_ _) | (refine b_then ?_ (by assumption)))⟩
        · cases ub
          · go_wp2_with fail
            refine (upper_any a _).mono ?_; rintro e6 w6 ⟨rfl, hb6⟩; have k6_a0 : w6.cell? ⟨w.heap.size, 0, none⟩ = some (.int .i64 a.re) := carry hb6 (by go_simp); have f6_a0 : w6.frozen? ⟨w.heap.size, 0, none⟩ = false := carryf hb6 (v := .int .i64 a.re) (by go_simp) (by go_simp); have k6_a1 : w6.cell? ⟨w.heap.size, 1, none⟩ = some (.int .i64 a.im) := carry hb6 (by go_simp); have f6_a1 : w6.frozen? ⟨w.heap.size, 1, none⟩ = false := carryf hb6 (v := .int .i64 a.im) (by go_simp) (by go_simp); have k6_a2 : w6.cell? ⟨w.heap.size, 2, none⟩ = some (.int .i64 a.den) := carry hb6 (by go_simp); have f6_a2 : w6.frozen? ⟨w.heap.size, 2, none⟩ = false := carryf hb6 (v := .int .i64 a.den) (by go_simp) (by go_simp); have z6_a : w.heap.size < w6.heap.size := World.block_lt_of_cell? _ _ k6_a0; have y6_a : w.heap.size ≤ w6.heap.size := Nat.le_of_lt z6_a; have k6_b0 : w6.cell? ⟨w.heap.size + 1, 0, none⟩ = some (.int .i64 b.re) := carry hb6 (by go_simp); have f6_b0 : w6.frozen? ⟨w.heap.size + 1, 0, none⟩ = false := carryf hb6 (v := .int .i64 b.re) (by go_simp) (by go_simp); have k6_b1 : w6.cell? ⟨w.heap.size + 1, 1, none⟩ = some (.int .i64 b.im) := carry hb6 (by go_simp); have f6_b1 : w6.frozen? ⟨w.heap.size + 1, 1, none⟩ = false := carryf hb6 (v := .int .i64 b.im) (by go_simp) (by go_simp); have k6_b2 : w6.cell? ⟨w.heap.size + 1, 2, none⟩ = some (.int .i64 b.den) := carry hb6 (by go_simp); have f6_b2 : w6.frozen? ⟨w.heap.size + 1, 2, none⟩ = false := carryf hb6 (v := .int .i64 b.den) (by go_simp) (by go_simp); have z6_b : w.heap.size + 1 < w6.heap.size := World.block_lt_of_cell? _ _ k6_b0; have y6_b : w.heap.size + 1 ≤ w6.heap.size := Nat.le_of_lt z6_b; have HB6 : Hid (Below w.heap.size w w6) := Lib.hid (by repeat (first | exact Below.refl _ _ | (exact Hid.out (by assumption)) | (refine b_set ?_ (by omega) _) | (refine b_alloc ?_ _) | (refine b_drew ?_) | (refine b_drewN ?_ _) | (refine b_then ?_ (by assumption)))); clear hb6
            rw [HUA.out]
            go_wp2_with fail
            go_ret2
            exact ⟨by rw [← HRR.out]; rfl, by repeat (first | exact Below.refl _ _ | (exact Hid.out (by assumption)) | (refine b_set ?_ (by omega) _) | (refine b_alloc ?_ _) | (refine b_drew ?_) | (refine b_drewN ?_ _) | (refine b_then ?_ (by assumption)))⟩
          · go_wp2_with fail
            refine (compare_any _ _ _).mono ?_
            rintro e6 w6 ⟨rfl, rfl⟩
            go_wp2_with fail
            go_ret2
            exact ⟨by rw [← HRR.out]; rfl, by repeat (first | exact Below.refl _ _ | (exact Hid.out (by assumption)) | (refine b_set ?_ (by omega) _) | (refine b_alloc ?_ _) | (refine b_drew ?_) | (refine b_drewN ?_ _) | (refine b_then ?_ (by assumption)))⟩
      · go_wp2_with fail
        go_ret2
        exact ⟨by rw [← HRR.out]; rfl, by repeat (first | exact Below.refl _ _ | (exact Hid.out (by assumption)) | (refine b_set ?_ (by omega) _) | (refine b_alloc ?_ _) | (refine b_drew ?_) | (refine b_drewN ?_ _) | (refine b_then ?_ (by assumption)))⟩
    · go_wp2_with fail
      go_ret2
      exact ⟨by rw [← HRR.out]; rfl, by repeat (first | exact Below.refl _ _ | (exact Hid.out (by assumption)) | (refine b_set ?_ (by omega) _) | (refine b_alloc ?_ _) | (refine b_drew ?_) | (refine b_drewN ?_ _) | (refine b_then ?_ (by assumption)))⟩
  · rw [if_neg hok] at hR
    have HB : Hid (Cx.both a b = 8) := Lib.hid (by unfold Cx.both; rw [if_neg hok])
    subst hR
    clear hok
    go_enter Try.func25, Try.ntmps25
    go_wp2_with fail
    refine (both_any a b _).mono ?_; rintro e1 w1 ⟨rfl, hb1⟩; have k1_a0 : w1.cell? ⟨w.heap.size, 0, none⟩ = some (.int .i64 a.re) := carry hb1 (by go_simp); have f1_a0 : w1.frozen? ⟨w.heap.size, 0, none⟩ = false := carryf hb1 (v := .int .i64 a.re) (by go_simp) (by go_simp); have k1_a1 : w1.cell? ⟨w.heap.size, 1, none⟩ = some (.int .i64 a.im) := carry hb1 (by go_simp); have f1_a1 : w1.frozen? ⟨w.heap.size, 1, none⟩ = false := carryf hb1 (v := .int .i64 a.im) (by go_simp) (by go_simp); have k1_a2 : w1.cell? ⟨w.heap.size, 2, none⟩ = some (.int .i64 a.den) := carry hb1 (by go_simp); have f1_a2 : w1.frozen? ⟨w.heap.size, 2, none⟩ = false := carryf hb1 (v := .int .i64 a.den) (by go_simp) (by go_simp); have z1_a : w.heap.size < w1.heap.size := World.block_lt_of_cell? _ _ k1_a0; have y1_a : w.heap.size ≤ w1.heap.size := Nat.le_of_lt z1_a; have k1_b0 : w1.cell? ⟨w.heap.size + 1, 0, none⟩ = some (.int .i64 b.re) := carry hb1 (by go_simp); have f1_b0 : w1.frozen? ⟨w.heap.size + 1, 0, none⟩ = false := carryf hb1 (v := .int .i64 b.re) (by go_simp) (by go_simp); have k1_b1 : w1.cell? ⟨w.heap.size + 1, 1, none⟩ = some (.int .i64 b.im) := carry hb1 (by go_simp); have f1_b1 : w1.frozen? ⟨w.heap.size + 1, 1, none⟩ = false := carryf hb1 (v := .int .i64 b.im) (by go_simp) (by go_simp); have k1_b2 : w1.cell? ⟨w.heap.size + 1, 2, none⟩ = some (.int .i64 b.den) := carry hb1 (by go_simp); have f1_b2 : w1.frozen? ⟨w.heap.size + 1, 2, none⟩ = false := carryf hb1 (v := .int .i64 b.den) (by go_simp) (by go_simp); have z1_b : w.heap.size + 1 < w1.heap.size := World.block_lt_of_cell? _ _ k1_b0; have y1_b : w.heap.size + 1 ≤ w1.heap.size := Nat.le_of_lt z1_b; have HB1 : Hid (Below w.heap.size w w1) := Lib.hid (by repeat (first | exact Below.refl _ _ | (exact Hid.out (by assumption)) | (refine b_set ?_ (by omega) _) | (refine b_alloc ?_ _) | (refine b_drew ?_) | (refine b_drewN ?_ _) | (refine b_then ?_ (by assumption)))); clear hb1
    rw [HB.out]
    go_wp2_with fail
    go_ret2
    exact ⟨rfl, by repeat (first | exact Below.refl _ _ | (exact Hid.out (by assumption)) | (refine b_set ?_ (by omega) _) | (refine b_alloc ?_ _) | (refine b_drew ?_) | (refine b_drewN ?_ _) | (refine b_then ?_ (by assumption)))⟩

end Go.Proofs.Ytdjdjbopddkndaa.A
