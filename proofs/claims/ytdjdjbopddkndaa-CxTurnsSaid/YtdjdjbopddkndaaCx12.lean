/- Conj, Norm, Ray and Zero of the reference of layer 25. -/
import Derived.Test.YtdjdjbopddkndaaProg
import Derived.Below
import Derived.Deep.Draws
import Derived.OwnWalk
import Derived.Tactics
import Derived.WalkKit
import Derived.KernelRfl
import Derived.Deep.LoopGhost
import Derived.Deep.QuietTactic
import Derived.BigQuiet
import Derived.Deep.DeepCutAuto
import Derived.Deep.RegionHeld3
import Derived.StillTailTactics
import Derived.WalkLawsBesides
import Derived.Lib.Hide
import Derived.Outline
import Derived.BigRegion
import Derived.Test.YtdjdjbopddkndaaMath
import Derived.Test.YtdjdjbopddkndaaLib
import Derived.Test.YtdjdjbopddkndaaCx1
import Derived.Test.YtdjdjbopddkndaaCx4
import Derived.Test.YtdjdjbopddkndaaCxM4
namespace Go.Proofs.Ytdjdjbopddkndaa.A
open Go.RowKit Go.BigFrame Go.Proofs.Ytdjdjbopddkndaa.M
set_option linter.unusedVariables false
set_option linter.unusedSimpArgs false

theorem rzero_any (a : Cx) (w : World) :
    Calls Try.prog 37 #[.agg #[.int .i64 (a).re, .int .i64 (a).im, .int .i64 (a).den]] w fun e w' => e = .returned (.bool a.isZero) ∧ Below w.heap.size w w' := by
  by_cases h1 : a.re = 0
  · have d1 : (a.re == 0) = true := by simpa using h1
    have HZ : Hid (a.isZero = (a.im == 0)) := Lib.hid (by unfold Cx.isZero; rw [d1]; rfl)
    rw [HZ.out]
    clear h1
    go_enter Try.func37, Try.ntmps37
    go_wp2_with fail
    go_ret
    exact ⟨rfl, by repeat (first | exact Below.refl _ _ | (exact Hid.out (by assumption)) | (refine b_set ?_ (by omega) _) | (refine b_alloc ?_ _) | (refine b_drew ?_) | (refine b_drewN ?_ _) | (refine b_then ?_ (by assumption)))⟩
  · have d1 : (a.re == 0) = false := by simpa using h1
    have HZ : Hid (a.isZero = false) := Lib.hid (by unfold Cx.isZero; rw [d1]; rfl)
    rw [HZ.out]
    clear h1
    go_enter Try.func37, Try.ntmps37
    go_wp2_with fail
    go_ret
    exact ⟨rfl, by repeat (first | exact Below.refl _ _ | (exact Hid.out (by assumption)) | (refine b_set ?_ (by omega) _) | (refine b_alloc ?_ _) | (refine b_drew ?_) | (refine b_drewN ?_ _) | (refine b_then ?_ (by assumption)))⟩

set_option maxHeartbeats 2000000 in
theorem rconj_any (a : Cx) (w : World) :
    Calls Try.prog 18 #[.agg #[.int .i64 (a).re, .int .i64 (a).im, .int .i64 (a).den]] w fun e w' => e = .returned (.tuple #[.agg #[.int .i64 ((Cx.conj a).1).re, .int .i64 ((Cx.conj a).1).im, .int .i64 ((Cx.conj a).1).den], .int .i64 (Cx.conj a).2]) ∧ Below w.heap.size w w' := by
  obtain ⟨R, HR⟩ : ∃ R, Hid (Cx.conj a = R) := ⟨_, Lib.hid rfl⟩
  rw [HR.out]
  have hR := HR.out
  unfold Cx.conj at hR
  by_cases hok : a.ok = true
  · rw [if_pos hok] at hR
    have HC : Hid (Cx.chk ⟨a.re, a.im, a.den⟩ = 0) := Lib.hid (by unfold Cx.chk; rw [if_pos hok])
    have ba := Cx.bounds hok
    clear hok
    subst hR
    go_enter Try.func18, Try.ntmps18
    go_wp2_with fail
    refine (rcheck_any a.re a.im a.den _).mono ?_; rintro e1 w1 ⟨rfl, hb1⟩; have k1_a0 : w1.cell? ⟨w.heap.size, 0, none⟩ = some (.int .i64 a.re) := carry hb1 (by go_simp); have f1_a0 : w1.frozen? ⟨w.heap.size, 0, none⟩ = false := carryf hb1 (v := .int .i64 a.re) (by go_simp) (by go_simp); have k1_a1 : w1.cell? ⟨w.heap.size, 1, none⟩ = some (.int .i64 a.im) := carry hb1 (by go_simp); have f1_a1 : w1.frozen? ⟨w.heap.size, 1, none⟩ = false := carryf hb1 (v := .int .i64 a.im) (by go_simp) (by go_simp); have k1_a2 : w1.cell? ⟨w.heap.size, 2, none⟩ = some (.int .i64 a.den) := carry hb1 (by go_simp); have f1_a2 : w1.frozen? ⟨w.heap.size, 2, none⟩ = false := carryf hb1 (v := .int .i64 a.den) (by go_simp) (by go_simp); have z1_a : w.heap.size < w1.heap.size := World.block_lt_of_cell? _ _ k1_a0; have y1_a : w.heap.size ≤ w1.heap.size := Nat.le_of_lt z1_a; have k1_r0 : w1.cell? ⟨w.heap.size + 1, 0, none⟩ = some (.int .i64 0) := carry hb1 (by go_simp); have f1_r0 : w1.frozen? ⟨w.heap.size + 1, 0, none⟩ = false := carryf hb1 (v := .int .i64 0) (by go_simp) (by go_simp); have k1_r1 : w1.cell? ⟨w.heap.size + 1, 1, none⟩ = some (.int .i64 0) := carry hb1 (by go_simp); have f1_r1 : w1.frozen? ⟨w.heap.size + 1, 1, none⟩ = false := carryf hb1 (v := .int .i64 0) (by go_simp) (by go_simp); have k1_r2 : w1.cell? ⟨w.heap.size + 1, 2, none⟩ = some (.int .i64 0) := carry hb1 (by go_simp); have f1_r2 : w1.frozen? ⟨w.heap.size + 1, 2, none⟩ = false := carryf hb1 (v := .int .i64 0) (by go_simp) (by go_simp); have z1_r : w.heap.size + 1 < w1.heap.size := World.block_lt_of_cell? _ _ k1_r0; have y1_r : w.heap.size + 1 ≤ w1.heap.size := Nat.le_of_lt z1_r; have HB1 : Hid (Below w.heap.size w w1) := Lib.hid (by repeat (first | exact Below.refl _ _ | (exact Hid.out (by assumption)) | (refine b_set ?_ (by omega) _) | (refine b_alloc ?_ _) | (refine b_drew ?_) | (refine b_drewN ?_ _) | (refine b_then ?_ (by assumption)))); clear hb1
    rw [HC.out]
    go_wp2_with fail
    exact bodyPost_ret (v := .tuple #[.agg #[.int .i64 a.re, .int .i64 (-a.im), .int .i64 a.den], .int .i64 0]) (by simp only [results, Try.results18]; go_simp) rfl ⟨rfl, by repeat (first | exact Below.refl _ _ | (exact Hid.out (by assumption)) | (refine b_set ?_ (by omega) _) | (refine b_alloc ?_ _) | (refine b_drew ?_) | (refine b_drewN ?_ _) | (refine b_then ?_ (by assumption)))⟩
  · rw [if_neg hok] at hR
    subst hR
    have HC : Hid (Cx.chk ⟨a.re, a.im, a.den⟩ = 8) := Lib.hid (by unfold Cx.chk; rw [if_neg hok])
    clear hok
    go_enter Try.func18, Try.ntmps18
    go_wp2_with fail
    refine (rcheck_any a.re a.im a.den _).mono ?_; rintro e1 w1 ⟨rfl, hb1⟩; have k1_a0 : w1.cell? ⟨w.heap.size, 0, none⟩ = some (.int .i64 a.re) := carry hb1 (by go_simp); have f1_a0 : w1.frozen? ⟨w.heap.size, 0, none⟩ = false := carryf hb1 (v := .int .i64 a.re) (by go_simp) (by go_simp); have k1_a1 : w1.cell? ⟨w.heap.size, 1, none⟩ = some (.int .i64 a.im) := carry hb1 (by go_simp); have f1_a1 : w1.frozen? ⟨w.heap.size, 1, none⟩ = false := carryf hb1 (v := .int .i64 a.im) (by go_simp) (by go_simp); have k1_a2 : w1.cell? ⟨w.heap.size, 2, none⟩ = some (.int .i64 a.den) := carry hb1 (by go_simp); have f1_a2 : w1.frozen? ⟨w.heap.size, 2, none⟩ = false := carryf hb1 (v := .int .i64 a.den) (by go_simp) (by go_simp); have z1_a : w.heap.size < w1.heap.size := World.block_lt_of_cell? _ _ k1_a0; have y1_a : w.heap.size ≤ w1.heap.size := Nat.le_of_lt z1_a; have k1_r0 : w1.cell? ⟨w.heap.size + 1, 0, none⟩ = some (.int .i64 0) := carry hb1 (by go_simp); have f1_r0 : w1.frozen? ⟨w.heap.size + 1, 0, none⟩ = false := carryf hb1 (v := .int .i64 0) (by go_simp) (by go_simp); have k1_r1 : w1.cell? ⟨w.heap.size + 1, 1, none⟩ = some (.int .i64 0) := carry hb1 (by go_simp); have f1_r1 : w1.frozen? ⟨w.heap.size + 1, 1, none⟩ = false := carryf hb1 (v := .int .i64 0) (by go_simp) (by go_simp); have k1_r2 : w1.cell? ⟨w.heap.size + 1, 2, none⟩ = some (.int .i64 0) := carry hb1 (by go_simp); have f1_r2 : w1.frozen? ⟨w.heap.size + 1, 2, none⟩ = false := carryf hb1 (v := .int .i64 0) (by go_simp) (by go_simp); have z1_r : w.heap.size + 1 < w1.heap.size := World.block_lt_of_cell? _ _ k1_r0; have y1_r : w.heap.size + 1 ≤ w1.heap.size := Nat.le_of_lt z1_r; have HB1 : Hid (Below w.heap.size w w1) := Lib.hid (by repeat (first | exact Below.refl _ _ | (exact Hid.out (by assumption)) | (refine b_set ?_ (by omega) _) | (refine b_alloc ?_ _) | (refine b_drew ?_) | (refine b_drewN ?_ _) | (refine b_then ?_ (by assumption)))); clear hb1
    rw [HC.out]
    go_wp2_with fail
    exact bodyPost_ret (v := .tuple #[.agg #[.int .i64 0, .int .i64 0, .int .i64 0], .int .i64 8]) (by simp only [results, Try.results18]; go_simp) rfl ⟨rfl, by repeat (first | exact Below.refl _ _ | (exact Hid.out (by assumption)) | (refine b_set ?_ (by omega) _) | (refine b_alloc ?_ _) | (refine b_drew ?_) | (refine b_drewN ?_ _) | (refine b_then ?_ (by assumption)))⟩

set_option maxHeartbeats 2000000 in
theorem rnorm_any (a : Cx) (w : World) :
    Calls Try.prog 22 #[.agg #[.int .i64 (a).re, .int .i64 (a).im, .int .i64 (a).den]] w fun e w' => e = .returned (.tuple #[.agg #[.int .i64 ((Cx.norm a).1).num, .int .i64 ((Cx.norm a).1).den], .int .i64 (Cx.norm a).2]) ∧ Below w.heap.size w w' := by
  obtain ⟨R, HR⟩ : ∃ R, Hid (Cx.norm a = R) := ⟨_, Lib.hid rfl⟩
  rw [HR.out]
  have hR := HR.out
  unfold Cx.norm at hR
  by_cases hok : a.ok = true
  · rw [if_pos hok] at hR
    have HC : Hid (Cx.chk ⟨a.re, a.im, a.den⟩ = 0) := Lib.hid (by unfold Cx.chk; rw [if_pos hok])
    have ba := Cx.bounds hok
    clear hok
    obtain ⟨n, d, g, q, dd, hn, hd, hg, hq, hqd, ⟨p1, p2⟩, ⟨p3, p4⟩, ⟨p5, p6⟩, ⟨n0, n1⟩, ⟨d0, d1⟩, ⟨g0, g1⟩, ⟨q0, q1⟩, ⟨x0, x1⟩⟩ := norm_facts a ba
    simp only [hn, hd, hg, hq, hqd] at hR
    have HG := Lib.hid hg
    clear hg
    have gz : ((g : Int) == 0) = false := by rw [beq_eq_false_iff_ne]; omega
    have gn : ¬ (g : Int) = 0 := by omega
    by_cases ht : q ≤ 1000000000000000000
    all_goals
      simp only [ht, if_true, if_false] at hR
      subst hR
      go_enter Try.func22, Try.ntmps22
      go_wp2_with fail
      refine (rcheck_any a.re a.im a.den _).mono ?_; rintro e1 w1 ⟨rfl, hb1⟩; have k1_a0 : w1.cell? ⟨w.heap.size, 0, none⟩ = some (.int .i64 a.re) := carry hb1 (by go_simp); have f1_a0 : w1.frozen? ⟨w.heap.size, 0, none⟩ = false := carryf hb1 (v := .int .i64 a.re) (by go_simp) (by go_simp); have k1_a1 : w1.cell? ⟨w.heap.size, 1, none⟩ = some (.int .i64 a.im) := carry hb1 (by go_simp); have f1_a1 : w1.frozen? ⟨w.heap.size, 1, none⟩ = false := carryf hb1 (v := .int .i64 a.im) (by go_simp) (by go_simp); have k1_a2 : w1.cell? ⟨w.heap.size, 2, none⟩ = some (.int .i64 a.den) := carry hb1 (by go_simp); have f1_a2 : w1.frozen? ⟨w.heap.size, 2, none⟩ = false := carryf hb1 (v := .int .i64 a.den) (by go_simp) (by go_simp); have z1_a : w.heap.size < w1.heap.size := World.block_lt_of_cell? _ _ k1_a0; have y1_a : w.heap.size ≤ w1.heap.size := Nat.le_of_lt z1_a; have k1_r0 : w1.cell? ⟨w.heap.size + 1, 0, none⟩ = some (.int .i64 0) := carry hb1 (by go_simp); have f1_r0 : w1.frozen? ⟨w.heap.size + 1, 0, none⟩ = false := carryf hb1 (v := .int .i64 0) (by go_simp) (by go_simp); have k1_r1 : w1.cell? ⟨w.heap.size + 1, 1, none⟩ = some (.int .i64 0) := carry hb1 (by go_simp); have f1_r1 : w1.frozen? ⟨w.heap.size + 1, 1, none⟩ = false := carryf hb1 (v := .int .i64 0) (by go_simp) (by go_simp); have z1_r : w.heap.size + 1 < w1.heap.size := World.block_lt_of_cell? _ _ k1_r0; have y1_r : w.heap.size + 1 ≤ w1.heap.size := Nat.le_of_lt z1_r; have HB1 : Hid (Below w.heap.size w w1) := Lib.hid (by repeat (first | exact Below.refl _ _ | (exact Hid.out (by assumption)) | (refine b_set ?_ (by omega) _) | (refine b_alloc ?_ _) | (refine b_drew ?_) | (refine b_drewN ?_ _) | (refine b_then ?_ (by assumption)))); clear hb1
      rw [HC.out]
      go_wp2_with fail
      go_quiet (fail)
      have hb2 : Below w1.heap.size w1 (w1.drewN nq) := b_drewN (Below.refl _ _) nq; generalize w1.drewN nq = w2 at hb2 ⊢; have k2_a0 : w2.cell? ⟨w.heap.size, 0, none⟩ = some (.int .i64 a.re) := carry hb2 (by go_simp); have f2_a0 : w2.frozen? ⟨w.heap.size, 0, none⟩ = false := carryf hb2 (v := .int .i64 a.re) (by go_simp) (by go_simp); have k2_a1 : w2.cell? ⟨w.heap.size, 1, none⟩ = some (.int .i64 a.im) := carry hb2 (by go_simp); have f2_a1 : w2.frozen? ⟨w.heap.size, 1, none⟩ = false := carryf hb2 (v := .int .i64 a.im) (by go_simp) (by go_simp); have k2_a2 : w2.cell? ⟨w.heap.size, 2, none⟩ = some (.int .i64 a.den) := carry hb2 (by go_simp); have f2_a2 : w2.frozen? ⟨w.heap.size, 2, none⟩ = false := carryf hb2 (v := .int .i64 a.den) (by go_simp) (by go_simp); have z2_a : w.heap.size < w2.heap.size := World.block_lt_of_cell? _ _ k2_a0; have y2_a : w.heap.size ≤ w2.heap.size := Nat.le_of_lt z2_a; have k2_r0 : w2.cell? ⟨w.heap.size + 1, 0, none⟩ = some (.int .i64 0) := carry hb2 (by go_simp); have f2_r0 : w2.frozen? ⟨w.heap.size + 1, 0, none⟩ = false := carryf hb2 (v := .int .i64 0) (by go_simp) (by go_simp); have k2_r1 : w2.cell? ⟨w.heap.size + 1, 1, none⟩ = some (.int .i64 0) := carry hb2 (by go_simp); have f2_r1 : w2.frozen? ⟨w.heap.size + 1, 1, none⟩ = false := carryf hb2 (v := .int .i64 0) (by go_simp) (by go_simp); have z2_r : w.heap.size + 1 < w2.heap.size := World.block_lt_of_cell? _ _ k2_r0; have y2_r : w.heap.size + 1 ≤ w2.heap.size := Nat.le_of_lt z2_r; have HB2 : Hid (Below w.heap.size w w2) := Lib.hid (by repeat (first | exact Below.refl _ _ | (exact Hid.out (by assumption)) | (refine b_set ?_ (by omega) _) | (refine b_alloc ?_ _) | (refine b_drew ?_) | (refine b_drewN ?_ _) | (refine b_then ?_ (by assumption)))); clear hb2; (try clear z1_a y1_a k1_a0 f1_a0 k1_a1 f1_a1 k1_a2 f1_a2); (try clear z1_r y1_r k1_r0 f1_r0 k1_r1 f1_r1)
      go_wp2_with fail
      refine (gcd2_any n d g HG.out (by omega) (by omega) _).mono ?_; rintro e3 w3 ⟨rfl, hb3⟩; have k3_a0 : w3.cell? ⟨w.heap.size, 0, none⟩ = some (.int .i64 a.re) := carry hb3 (by go_simp); have f3_a0 : w3.frozen? ⟨w.heap.size, 0, none⟩ = false := carryf hb3 (v := .int .i64 a.re) (by go_simp) (by go_simp); have k3_a1 : w3.cell? ⟨w.heap.size, 1, none⟩ = some (.int .i64 a.im) := carry hb3 (by go_simp); have f3_a1 : w3.frozen? ⟨w.heap.size, 1, none⟩ = false := carryf hb3 (v := .int .i64 a.im) (by go_simp) (by go_simp); have k3_a2 : w3.cell? ⟨w.heap.size, 2, none⟩ = some (.int .i64 a.den) := carry hb3 (by go_simp); have f3_a2 : w3.frozen? ⟨w.heap.size, 2, none⟩ = false := carryf hb3 (v := .int .i64 a.den) (by go_simp) (by go_simp); have z3_a : w.heap.size < w3.heap.size := World.block_lt_of_cell? _ _ k3_a0; have y3_a : w.heap.size ≤ w3.heap.size := Nat.le_of_lt z3_a; have k3_r0 : w3.cell? ⟨w.heap.size + 1, 0, none⟩ = some (.int .i64 0) := carry hb3 (by go_simp); have f3_r0 : w3.frozen? ⟨w.heap.size + 1, 0, none⟩ = false := carryf hb3 (v := .int .i64 0) (by go_simp) (by go_simp); have k3_r1 : w3.cell? ⟨w.heap.size + 1, 1, none⟩ = some (.int .i64 0) := carry hb3 (by go_simp); have f3_r1 : w3.frozen? ⟨w.heap.size + 1, 1, none⟩ = false := carryf hb3 (v := .int .i64 0) (by go_simp) (by go_simp); have z3_r : w.heap.size + 1 < w3.heap.size := World.block_lt_of_cell? _ _ k3_r0; have y3_r : w.heap.size + 1 ≤ w3.heap.size := Nat.le_of_lt z3_r; have HB3 : Hid (Below w.heap.size w w3) := Lib.hid (by repeat (first | exact Below.refl _ _ | (exact Hid.out (by assumption)) | (refine b_set ?_ (by omega) _) | (refine b_alloc ?_ _) | (refine b_drew ?_) | (refine b_drewN ?_ _) | (refine b_then ?_ (by assumption)))); clear hb3; (try clear z2_a y2_a k2_a0 f2_a0 k2_a1 f2_a1 k2_a2 f2_a2); (try clear z2_r y2_r k2_r0 f2_r0 k2_r1 f2_r1)
      go_wp2_with fail
      first
      | exact bodyPost_ret (v := .tuple #[.agg #[.int .i64 0, .int .i64 0], .int .i64 16]) (by simp only [results, Try.results22]; go_simp) rfl ⟨rfl, by repeat (first | exact Below.refl _ _ | (exact Hid.out (by assumption)) | (refine b_set ?_ (by omega) _) | (refine b_alloc ?_ _) | (refine b_drew ?_) | (refine b_drewN ?_ _) | (refine b_then ?_ (by assumption)))⟩
      | (go_region
         go_wp2_with fail
         exact bodyPost_ret (v := .tuple #[.agg #[.int .i64 q, .int .i64 dd], .int .i64 0]) (by simp only [results, Try.results22]; go_simp) rfl ⟨rfl, by repeat (first | exact Below.refl _ _ | (exact Hid.out (by assumption)) | (refine b_set ?_ (by omega) _) | (refine b_alloc ?_ _) | (refine b_drew ?_) | (refine b_drewN ?_ _) | (refine b_then ?_ (by assumption)))⟩)
  · rw [if_neg hok] at hR
    subst hR
    have HC : Hid (Cx.chk ⟨a.re, a.im, a.den⟩ = 8) := Lib.hid (by unfold Cx.chk; rw [if_neg hok])
    clear hok
    go_enter Try.func22, Try.ntmps22
    go_wp2_with fail
    refine (rcheck_any a.re a.im a.den _).mono ?_; rintro e1 w1 ⟨rfl, hb1⟩; have k1_a0 : w1.cell? ⟨w.heap.size, 0, none⟩ = some (.int .i64 a.re) := carry hb1 (by go_simp); have f1_a0 : w1.frozen? ⟨w.heap.size, 0, none⟩ = false := carryf hb1 (v := .int .i64 a.re) (by go_simp) (by go_simp); have k1_a1 : w1.cell? ⟨w.heap.size, 1, none⟩ = some (.int .i64 a.im) := carry hb1 (by go_simp); have f1_a1 : w1.frozen? ⟨w.heap.size, 1, none⟩ = false := carryf hb1 (v := .int .i64 a.im) (by go_simp) (by go_simp); have k1_a2 : w1.cell? ⟨w.heap.size, 2, none⟩ = some (.int .i64 a.den) := carry hb1 (by go_simp); have f1_a2 : w1.frozen? ⟨w.heap.size, 2, none⟩ = false := carryf hb1 (v := .int .i64 a.den) (by go_simp) (by go_simp); have z1_a : w.heap.size < w1.heap.size := World.block_lt_of_cell? _ _ k1_a0; have y1_a : w.heap.size ≤ w1.heap.size := Nat.le_of_lt z1_a; have k1_r0 : w1.cell? ⟨w.heap.size + 1, 0, none⟩ = some (.int .i64 0) := carry hb1 (by go_simp); have f1_r0 : w1.frozen? ⟨w.heap.size + 1, 0, none⟩ = false := carryf hb1 (v := .int .i64 0) (by go_simp) (by go_simp); have k1_r1 : w1.cell? ⟨w.heap.size + 1, 1, none⟩ = some (.int .i64 0) := carry hb1 (by go_simp); have f1_r1 : w1.frozen? ⟨w.heap.size + 1, 1, none⟩ = false := carryf hb1 (v := .int .i64 0) (by go_simp) (by go_simp); have z1_r : w.heap.size + 1 < w1.heap.size := World.block_lt_of_cell? _ _ k1_r0; have y1_r : w.heap.size + 1 ≤ w1.heap.size := Nat.le_of_lt z1_r; have HB1 : Hid (Below w.heap.size w w1) := Lib.hid (by repeat (first | exact Below.refl _ _ | (exact Hid.out (by assumption)) | (refine b_set ?_ (by omega) _) | (refine b_alloc ?_ _) | (refine b_drew ?_) | (refine b_drewN ?_ _) | (refine b_then ?_ (by assumption)))); clear hb1
    rw [HC.out]
    go_wp2_with fail
    exact bodyPost_ret (v := .tuple #[.agg #[.int .i64 0, .int .i64 0], .int .i64 8]) (by simp only [results, Try.results22]; go_simp) rfl ⟨rfl, by repeat (first | exact Below.refl _ _ | (exact Hid.out (by assumption)) | (refine b_set ?_ (by omega) _) | (refine b_alloc ?_ _) | (refine b_drew ?_) | (refine b_drewN ?_ _) | (refine b_then ?_ (by assumption)))⟩

set_option maxHeartbeats 2000000 in
theorem rray_any (a : Cx) (w : World) :
    Calls Try.prog 24 #[.agg #[.int .i64 (a).re, .int .i64 (a).im, .int .i64 (a).den]] w fun e w' => e = .returned (.tuple #[.agg #[.int .i64 ((Cx.ray a).1).re, .int .i64 ((Cx.ray a).1).im, .int .i64 ((Cx.ray a).1).den], .int .i64 (Cx.ray a).2]) ∧ Below w.heap.size w w' := by
  obtain ⟨R, HR⟩ : ∃ R, Hid (Cx.ray a = R) := ⟨_, Lib.hid rfl⟩
  rw [HR.out]
  have hR := HR.out
  unfold Cx.ray at hR
  by_cases hok : a.ok = true
  · rw [if_pos hok] at hR
    have HC : Hid (Cx.chk ⟨a.re, a.im, a.den⟩ = 0) := Lib.hid (by unfold Cx.chk; rw [if_pos hok])
    have ba := Cx.bounds hok
    clear hok
    cases hz : a.isZero
    · rw [hz] at hR
      simp only [Bool.false_eq_true, if_false] at hR
      have HZ := Lib.hid hz
      obtain ⟨g, q1, q2, hg, e1, e2, ⟨g0, g1⟩, ⟨q0, q3⟩, ⟨q4, q5⟩⟩ := ray_facts a ba hz
      rw [hg, e1, e2] at hR
      subst hR
      have HG := Lib.hid hg
      clear hg hz
      have gz : ((g : Int) == 0) = false := by rw [beq_eq_false_iff_ne]; omega
      have gn : ¬ (g : Int) = 0 := by omega
      go_enter Try.func24, Try.ntmps24
      go_wp2_with fail
      refine (rcheck_any a.re a.im a.den _).mono ?_; rintro e1 w1 ⟨rfl, hb1⟩; have k1_a0 : w1.cell? ⟨w.heap.size, 0, none⟩ = some (.int .i64 a.re) := carry hb1 (by go_simp); have f1_a0 : w1.frozen? ⟨w.heap.size, 0, none⟩ = false := carryf hb1 (v := .int .i64 a.re) (by go_simp) (by go_simp); have k1_a1 : w1.cell? ⟨w.heap.size, 1, none⟩ = some (.int .i64 a.im) := carry hb1 (by go_simp); have f1_a1 : w1.frozen? ⟨w.heap.size, 1, none⟩ = false := carryf hb1 (v := .int .i64 a.im) (by go_simp) (by go_simp); have k1_a2 : w1.cell? ⟨w.heap.size, 2, none⟩ = some (.int .i64 a.den) := carry hb1 (by go_simp); have f1_a2 : w1.frozen? ⟨w.heap.size, 2, none⟩ = false := carryf hb1 (v := .int .i64 a.den) (by go_simp) (by go_simp); have z1_a : w.heap.size < w1.heap.size := World.block_lt_of_cell? _ _ k1_a0; have y1_a : w.heap.size ≤ w1.heap.size := Nat.le_of_lt z1_a; have k1_r0 : w1.cell? ⟨w.heap.size + 1, 0, none⟩ = some (.int .i64 0) := carry hb1 (by go_simp); have f1_r0 : w1.frozen? ⟨w.heap.size + 1, 0, none⟩ = false := carryf hb1 (v := .int .i64 0) (by go_simp) (by go_simp); have k1_r1 : w1.cell? ⟨w.heap.size + 1, 1, none⟩ = some (.int .i64 0) := carry hb1 (by go_simp); have f1_r1 : w1.frozen? ⟨w.heap.size + 1, 1, none⟩ = false := carryf hb1 (v := .int .i64 0) (by go_simp) (by go_simp); have k1_r2 : w1.cell? ⟨w.heap.size + 1, 2, none⟩ = some (.int .i64 0) := carry hb1 (by go_simp); have f1_r2 : w1.frozen? ⟨w.heap.size + 1, 2, none⟩ = false := carryf hb1 (v := .int .i64 0) (by go_simp) (by go_simp); have z1_r : w.heap.size + 1 < w1.heap.size := World.block_lt_of_cell? _ _ k1_r0; have y1_r : w.heap.size + 1 ≤ w1.heap.size := Nat.le_of_lt z1_r; have HB1 : Hid (Below w.heap.size w w1) := Lib.hid (by repeat (first | exact Below.refl _ _ | (exact Hid.out (by assumption)) | (refine b_set ?_ (by omega) _) | (refine b_alloc ?_ _) | (refine b_drew ?_) | (refine b_drewN ?_ _) | (refine b_then ?_ (by assumption)))); clear hb1
      rw [HC.out]
      go_wp2_with fail
      refine (rzero_any a _).mono ?_; rintro e2 w2 ⟨rfl, hb2⟩; have k2_a0 : w2.cell? ⟨w.heap.size, 0, none⟩ = some (.int .i64 a.re) := carry hb2 (by go_simp); have f2_a0 : w2.frozen? ⟨w.heap.size, 0, none⟩ = false := carryf hb2 (v := .int .i64 a.re) (by go_simp) (by go_simp); have k2_a1 : w2.cell? ⟨w.heap.size, 1, none⟩ = some (.int .i64 a.im) := carry hb2 (by go_simp); have f2_a1 : w2.frozen? ⟨w.heap.size, 1, none⟩ = false := carryf hb2 (v := .int .i64 a.im) (by go_simp) (by go_simp); have k2_a2 : w2.cell? ⟨w.heap.size, 2, none⟩ = some (.int .i64 a.den) := carry hb2 (by go_simp); have f2_a2 : w2.frozen? ⟨w.heap.size, 2, none⟩ = false := carryf hb2 (v := .int .i64 a.den) (by go_simp) (by go_simp); have z2_a : w.heap.size < w2.heap.size := World.block_lt_of_cell? _ _ k2_a0; have y2_a : w.heap.size ≤ w2.heap.size := Nat.le_of_lt z2_a; have k2_r0 : w2.cell? ⟨w.heap.size + 1, 0, none⟩ = some (.int .i64 0) := carry hb2 (by go_simp); have f2_r0 : w2.frozen? ⟨w.heap.size + 1, 0, none⟩ = false := carryf hb2 (v := .int .i64 0) (by go_simp) (by go_simp); have k2_r1 : w2.cell? ⟨w.heap.size + 1, 1, none⟩ = some (.int .i64 0) := carry hb2 (by go_simp); have f2_r1 : w2.frozen? ⟨w.heap.size + 1, 1, none⟩ = false := carryf hb2 (v := .int .i64 0) (by go_simp) (by go_simp); have k2_r2 : w2.cell? ⟨w.heap.size + 1, 2, none⟩ = some (.int .i64 0) := carry hb2 (by go_simp); have f2_r2 : w2.frozen? ⟨w.heap.size + 1, 2, none⟩ = false := carryf hb2 (v := .int .i64 0) (by go_simp) (by go_simp); have z2_r : w.heap.size + 1 < w2.heap.size := World.block_lt_of_cell? _ _ k2_r0; have y2_r : w.heap.size + 1 ≤ w2.heap.size := Nat.le_of_lt z2_r; have HB2 : Hid (Below w.heap.size w w2) := Lib.hid (by repeat (first | exact Below.refl _ _ | (exact Hid.out (by assumption)) | (refine b_set ?_ (by omega) _) | (refine b_alloc ?_ _) | (refine b_drew ?_) | (refine b_drewN ?_ _) | (refine b_then ?_ (by assumption)))); clear hb2; (try clear z1_a y1_a k1_a0 f1_a0 k1_a1 f1_a1 k1_a2 f1_a2); (try clear z1_r y1_r k1_r0 f1_r0 k1_r1 f1_r1 k1_r2 f1_r2)
      rw [HZ.out]
      go_wp2_with fail
      refine (gcd2_any a.re a.im g HG.out (by omega) (by omega) _).mono ?_; rintro e3 w3 ⟨rfl, hb3⟩; have k3_a0 : w3.cell? ⟨w.heap.size, 0, none⟩ = some (.int .i64 a.re) := carry hb3 (by go_simp); have f3_a0 : w3.frozen? ⟨w.heap.size, 0, none⟩ = false := carryf hb3 (v := .int .i64 a.re) (by go_simp) (by go_simp); have k3_a1 : w3.cell? ⟨w.heap.size, 1, none⟩ = some (.int .i64 a.im) := carry hb3 (by go_simp); have f3_a1 : w3.frozen? ⟨w.heap.size, 1, none⟩ = false := carryf hb3 (v := .int .i64 a.im) (by go_simp) (by go_simp); have k3_a2 : w3.cell? ⟨w.heap.size, 2, none⟩ = some (.int .i64 a.den) := carry hb3 (by go_simp); have f3_a2 : w3.frozen? ⟨w.heap.size, 2, none⟩ = false := carryf hb3 (v := .int .i64 a.den) (by go_simp) (by go_simp); have z3_a : w.heap.size < w3.heap.size := World.block_lt_of_cell? _ _ k3_a0; have y3_a : w.heap.size ≤ w3.heap.size := Nat.le_of_lt z3_a; have k3_r0 : w3.cell? ⟨w.heap.size + 1, 0, none⟩ = some (.int .i64 0) := carry hb3 (by go_simp); have f3_r0 : w3.frozen? ⟨w.heap.size + 1, 0, none⟩ = false := carryf hb3 (v := .int .i64 0) (by go_simp) (by go_simp); have k3_r1 : w3.cell? ⟨w.heap.size + 1, 1, none⟩ = some (.int .i64 0) := carry hb3 (by go_simp); have f3_r1 : w3.frozen? ⟨w.heap.size + 1, 1, none⟩ = false := carryf hb3 (v := .int .i64 0) (by go_simp) (by go_simp); have k3_r2 : w3.cell? ⟨w.heap.size + 1, 2, none⟩ = some (.int .i64 0) := carry hb3 (by go_simp); have f3_r2 : w3.frozen? ⟨w.heap.size + 1, 2, none⟩ = false := carryf hb3 (v := .int .i64 0) (by go_simp) (by go_simp); have z3_r : w.heap.size + 1 < w3.heap.size := World.block_lt_of_cell? _ _ k3_r0; have y3_r : w.heap.size + 1 ≤ w3.heap.size := Nat.le_of_lt z3_r; have HB3 : Hid (Below w.heap.size w w3) := Lib.hid (by repeat (first | exact Below.refl _ _ | (exact Hid.out (by assumption)) | (refine b_set ?_ (by omega) _) | (refine b_alloc ?_ _) | (refine b_drew ?_) | (refine b_drewN ?_ _) | (refine b_then ?_ (by assumption)))); clear hb3; (try clear z2_a y2_a k2_a0 f2_a0 k2_a1 f2_a1 k2_a2 f2_a2); (try clear z2_r y2_r k2_r0 f2_r0 k2_r1 f2_r1 k2_r2 f2_r2)
      go_wp2_with fail
      go_region
      go_wp2_with fail
      exact bodyPost_ret (v := .tuple #[.agg #[.int .i64 q1, .int .i64 q2, .int .i64 1], .int .i64 0]) (by simp only [results, Try.results24]; go_simp) rfl ⟨rfl, by repeat (first | exact Below.refl _ _ | (exact Hid.out (by assumption)) | (refine b_set ?_ (by omega) _) | (refine b_alloc ?_ _) | (refine b_drew ?_) | (refine b_drewN ?_ _) | (refine b_then ?_ (by assumption)))⟩
    · rw [hz] at hR
      simp only [if_true] at hR
      subst hR
      have HZ := Lib.hid hz
      clear hz
      go_enter Try.func24, Try.ntmps24
      go_wp2_with fail
      refine (rcheck_any a.re a.im a.den _).mono ?_; rintro e1 w1 ⟨rfl, hb1⟩; have k1_a0 : w1.cell? ⟨w.heap.size, 0, none⟩ = some (.int .i64 a.re) := carry hb1 (by go_simp); have f1_a0 : w1.frozen? ⟨w.heap.size, 0, none⟩ = false := carryf hb1 (v := .int .i64 a.re) (by go_simp) (by go_simp); have k1_a1 : w1.cell? ⟨w.heap.size, 1, none⟩ = some (.int .i64 a.im) := carry hb1 (by go_simp); have f1_a1 : w1.frozen? ⟨w.heap.size, 1, none⟩ = false := carryf hb1 (v := .int .i64 a.im) (by go_simp) (by go_simp); have k1_a2 : w1.cell? ⟨w.heap.size, 2, none⟩ = some (.int .i64 a.den) := carry hb1 (by go_simp); have f1_a2 : w1.frozen? ⟨w.heap.size, 2, none⟩ = false := carryf hb1 (v := .int .i64 a.den) (by go_simp) (by go_simp); have z1_a : w.heap.size < w1.heap.size := World.block_lt_of_cell? _ _ k1_a0; have y1_a : w.heap.size ≤ w1.heap.size := Nat.le_of_lt z1_a; have k1_r0 : w1.cell? ⟨w.heap.size + 1, 0, none⟩ = some (.int .i64 0) := carry hb1 (by go_simp); have f1_r0 : w1.frozen? ⟨w.heap.size + 1, 0, none⟩ = false := carryf hb1 (v := .int .i64 0) (by go_simp) (by go_simp); have k1_r1 : w1.cell? ⟨w.heap.size + 1, 1, none⟩ = some (.int .i64 0) := carry hb1 (by go_simp); have f1_r1 : w1.frozen? ⟨w.heap.size + 1, 1, none⟩ = false := carryf hb1 (v := .int .i64 0) (by go_simp) (by go_simp); have k1_r2 : w1.cell? ⟨w.heap.size + 1, 2, none⟩ = some (.int .i64 0) := carry hb1 (by go_simp); have f1_r2 : w1.frozen? ⟨w.heap.size + 1, 2, none⟩ = false := carryf hb1 (v := .int .i64 0) (by go_simp) (by go_simp); have z1_r : w.heap.size + 1 < w1.heap.size := World.block_lt_of_cell? _ _ k1_r0; have y1_r : w.heap.size + 1 ≤ w1.heap.size := Nat.le_of_lt z1_r; have HB1 : Hid (Below w.heap.size w w1) := Lib.hid (by repeat (first | exact Below.refl _ _ | (exact Hid.out (by assumption)) | (refine b_set ?_ (by omega) _) | (refine b_alloc ?_ _) | (refine b_drew ?_) | (refine b_drewN ?_ _) | (refine b_then ?_ (by assumption)))); clear hb1
      rw [HC.out]
      go_wp2_with fail
      refine (rzero_any a _).mono ?_; rintro e2 w2 ⟨rfl, hb2⟩; have k2_a0 : w2.cell? ⟨w.heap.size, 0, none⟩ = some (.int .i64 a.re) := carry hb2 (by go_simp); have f2_a0 : w2.frozen? ⟨w.heap.size, 0, none⟩ = false := carryf hb2 (v := .int .i64 a.re) (by go_simp) (by go_simp); have k2_a1 : w2.cell? ⟨w.heap.size, 1, none⟩ = some (.int .i64 a.im) := carry hb2 (by go_simp); have f2_a1 : w2.frozen? ⟨w.heap.size, 1, none⟩ = false := carryf hb2 (v := .int .i64 a.im) (by go_simp) (by go_simp); have k2_a2 : w2.cell? ⟨w.heap.size, 2, none⟩ = some (.int .i64 a.den) := carry hb2 (by go_simp); have f2_a2 : w2.frozen? ⟨w.heap.size, 2, none⟩ = false := carryf hb2 (v := .int .i64 a.den) (by go_simp) (by go_simp); have z2_a : w.heap.size < w2.heap.size := World.block_lt_of_cell? _ _ k2_a0; have y2_a : w.heap.size ≤ w2.heap.size := Nat.le_of_lt z2_a; have k2_r0 : w2.cell? ⟨w.heap.size + 1, 0, none⟩ = some (.int .i64 0) := carry hb2 (by go_simp); have f2_r0 : w2.frozen? ⟨w.heap.size + 1, 0, none⟩ = false := carryf hb2 (v := .int .i64 0) (by go_simp) (by go_simp); have k2_r1 : w2.cell? ⟨w.heap.size + 1, 1, none⟩ = some (.int .i64 0) := carry hb2 (by go_simp); have f2_r1 : w2.frozen? ⟨w.heap.size + 1, 1, none⟩ = false := carryf hb2 (v := .int .i64 0) (by go_simp) (by go_simp); have k2_r2 : w2.cell? ⟨w.heap.size + 1, 2, none⟩ = some (.int .i64 0) := carry hb2 (by go_simp); have f2_r2 : w2.frozen? ⟨w.heap.size + 1, 2, none⟩ = false := carryf hb2 (v := .int .i64 0) (by go_simp) (by go_simp); have z2_r : w.heap.size + 1 < w2.heap.size := World.block_lt_of_cell? _ _ k2_r0; have y2_r : w.heap.size + 1 ≤ w2.heap.size := Nat.le_of_lt z2_r; have HB2 : Hid (Below w.heap.size w w2) := Lib.hid (by repeat (first | exact Below.refl _ _ | (exact Hid.out (by assumption)) | (refine b_set ?_ (by omega) _) | (refine b_alloc ?_ _) | (refine b_drew ?_) | (refine b_drewN ?_ _) | (refine b_then ?_ (by assumption)))); clear hb2; (try clear z1_a y1_a k1_a0 f1_a0 k1_a1 f1_a1 k1_a2 f1_a2); (try clear z1_r y1_r k1_r0 f1_r0 k1_r1 f1_r1 k1_r2 f1_r2)
      rw [HZ.out]
      go_wp2_with fail
      exact bodyPost_ret (v := .tuple #[.agg #[.int .i64 0, .int .i64 0, .int .i64 0], .int .i64 18]) (by simp only [results, Try.results24]; go_simp) rfl ⟨rfl, by repeat (first | exact Below.refl _ _ | (exact Hid.out (by assumption)) | (refine b_set ?_ (by omega) _) | (refine b_alloc ?_ _) | (refine b_drew ?_) | (refine b_drewN ?_ _) | (refine b_then ?_ (by assumption)))⟩
  · rw [if_neg hok] at hR
    subst hR
    have HC : Hid (Cx.chk ⟨a.re, a.im, a.den⟩ = 8) := Lib.hid (by unfold Cx.chk; rw [if_neg hok])
    clear hok
    go_enter Try.func24, Try.ntmps24
    go_wp2_with fail
    refine (rcheck_any a.re a.im a.den _).mono ?_; rintro e1 w1 ⟨rfl, hb1⟩; have k1_a0 : w1.cell? ⟨w.heap.size, 0, none⟩ = some (.int .i64 a.re) := carry hb1 (by go_simp); have f1_a0 : w1.frozen? ⟨w.heap.size, 0, none⟩ = false := carryf hb1 (v := .int .i64 a.re) (by go_simp) (by go_simp); have k1_a1 : w1.cell? ⟨w.heap.size, 1, none⟩ = some (.int .i64 a.im) := carry hb1 (by go_simp); have f1_a1 : w1.frozen? ⟨w.heap.size, 1, none⟩ = false := carryf hb1 (v := .int .i64 a.im) (by go_simp) (by go_simp); have k1_a2 : w1.cell? ⟨w.heap.size, 2, none⟩ = some (.int .i64 a.den) := carry hb1 (by go_simp); have f1_a2 : w1.frozen? ⟨w.heap.size, 2, none⟩ = false := carryf hb1 (v := .int .i64 a.den) (by go_simp) (by go_simp); have z1_a : w.heap.size < w1.heap.size := World.block_lt_of_cell? _ _ k1_a0; have y1_a : w.heap.size ≤ w1.heap.size := Nat.le_of_lt z1_a; have k1_r0 : w1.cell? ⟨w.heap.size + 1, 0, none⟩ = some (.int .i64 0) := carry hb1 (by go_simp); have f1_r0 : w1.frozen? ⟨w.heap.size + 1, 0, none⟩ = false := carryf hb1 (v := .int .i64 0) (by go_simp) (by go_simp); have k1_r1 : w1.cell? ⟨w.heap.size + 1, 1, none⟩ = some (.int .i64 0) := carry hb1 (by go_simp); have f1_r1 : w1.frozen? ⟨w.heap.size + 1, 1, none⟩ = false := carryf hb1 (v := .int .i64 0) (by go_simp) (by go_simp); have k1_r2 : w1.cell? ⟨w.heap.size + 1, 2, none⟩ = some (.int .i64 0) := carry hb1 (by go_simp); have f1_r2 : w1.frozen? ⟨w.heap.size + 1, 2, none⟩ = false := carryf hb1 (v := .int .i64 0) (by go_simp) (by go_simp); have z1_r : w.heap.size + 1 < w1.heap.size := World.block_lt_of_cell? _ _ k1_r0; have y1_r : w.heap.size + 1 ≤ w1.heap.size := Nat.le_of_lt z1_r; have HB1 : Hid (Below w.heap.size w w1) := Lib.hid (by repeat (first | exact Below.refl _ _ | (exact Hid.out (by assumption)) | (refine b_set ?_ (by omega) _) | (refine b_alloc ?_ _) | (refine b_drew ?_) | (refine b_drewN ?_ _) | (refine b_then ?_ (by assumption)))); clear hb1
    rw [HC.out]
    go_wp2_with fail
    exact bodyPost_ret (v := .tuple #[.agg #[.int .i64 0, .int .i64 0, .int .i64 0], .int .i64 8]) (by simp only [results, Try.results24]; go_simp) rfl ⟨rfl, by repeat (first | exact Below.refl _ _ | (exact Hid.out (by assumption)) | (refine b_set ?_ (by omega) _) | (refine b_alloc ?_ _) | (refine b_drew ?_) | (refine b_drewN ?_ _) | (refine b_then ?_ (by assumption)))⟩

end Go.Proofs.Ytdjdjbopddkndaa.A
