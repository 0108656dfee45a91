/- Turn and Order of the reference of layer 25. -/
import Derived.Test.YtdjdjbopddkndaaProg
import Derived.Below
import Derived.Deep.Draws
import Derived.OwnWalk
import Derived.Tactics
import Derived.WalkKit
import Derived.KernelRfl
import Derived.Deep.LoopGhost
import Derived.Deep.QuietTactic
import Derived.BigQuiet
import Derived.Deep.DeepCutAuto
import Derived.Deep.RegionHeld3
import Derived.StillTailTactics
import Derived.WalkLawsBesides
import Derived.Lib.Hide
import Derived.Outline
import Derived.BigRegion
import Derived.Test.YtdjdjbopddkndaaMath
import Derived.Test.YtdjdjbopddkndaaLib
import Derived.Test.YtdjdjbopddkndaaCx1
import Derived.Test.YtdjdjbopddkndaaCx4
import Derived.Test.YtdjdjbopddkndaaCx12
import Derived.Test.YtdjdjbopddkndaaCx13
import Derived.Test.YtdjdjbopddkndaaCxM5
import Derived.Test.YtdjdjbopddkndaaBits
namespace Go.Proofs.Ytdjdjbopddkndaa.A
open Go.RowKit Go.BigFrame Go.Proofs.Ytdjdjbopddkndaa.M
set_option linter.unusedVariables false
set_option linter.unusedSimpArgs false

set_option maxHeartbeats 4000000 in
theorem rturn_any (a : Cx) (q : Int) (hq : -9223372036854775808 ≤ q ∧ q ≤ 9223372036854775807) (w : World) :
    Calls Try.prog 20 #[.agg #[.int .i64 (a).re, .int .i64 (a).im, .int .i64 (a).den], .int .i64 q] w fun e w' => e = .returned (.tuple #[.agg #[.int .i64 ((Cx.turn a q).1).re, .int .i64 ((Cx.turn a q).1).im, .int .i64 ((Cx.turn a q).1).den], .int .i64 (Cx.turn a q).2]) ∧ Below w.heap.size w w' := by
  obtain ⟨R, HR⟩ : ∃ R, Hid (Cx.turn a q = R) := ⟨_, Lib.hid rfl⟩
  rw [HR.out]
  have hR := HR.out
  unfold Cx.turn at hR
  by_cases hok : a.ok = true
  · rw [if_pos hok] at hR
    have HC : Hid (Cx.chk ⟨a.re, a.im, a.den⟩ = 0) := Lib.hid (by unfold Cx.chk; rw [if_pos hok])
    have ba := Cx.bounds hok
    clear hok
    obtain ⟨m, hm⟩ : ∃ m, q.tmod 4 = m := ⟨_, rfl⟩
    obtain ⟨K, hK⟩ : ∃ K : Nat, q % 4 = K := ⟨(q % 4).toNat, by omega⟩
    have hm1 : -3 ≤ m ∧ m ≤ 3 := by
      have := tmod_bd q (b := 4) (by omega); omega
    have hmK : (m + 4) % 4 = K := by
      rw [← hm, Int.tmod_def]; omega
    have hK3 : K ≤ 3 := by omega
    rw [hK] at hR
    subst hR
    clear hK
    go_enter Try.func20, Try.ntmps20
    go_wp2_with fail
    refine (rcheck_any a.re a.im a.den _).mono ?_; rintro e1 w1 ⟨rfl, hb1⟩; have k1_a0 : w1.cell? ⟨w.heap.size, 0, none⟩ = some (.int .i64 a.re) := carry hb1 (by go_simp); have f1_a0 : w1.frozen? ⟨w.heap.size, 0, none⟩ = false := carryf hb1 (v := .int .i64 a.re) (by go_simp) (by go_simp); have k1_a1 : w1.cell? ⟨w.heap.size, 1, none⟩ = some (.int .i64 a.im) := carry hb1 (by go_simp); have f1_a1 : w1.frozen? ⟨w.heap.size, 1, none⟩ = false := carryf hb1 (v := .int .i64 a.im) (by go_simp) (by go_simp); have k1_a2 : w1.cell? ⟨w.heap.size, 2, none⟩ = some (.int .i64 a.den) := carry hb1 (by go_simp); have f1_a2 : w1.frozen? ⟨w.heap.size, 2, none⟩ = false := carryf hb1 (v := .int .i64 a.den) (by go_simp) (by go_simp); have z1_a : w.heap.size < w1.heap.size := World.block_lt_of_cell? _ _ k1_a0; have y1_a : w.heap.size ≤ w1.heap.size := Nat.le_of_lt z1_a; have k1_r0 : w1.cell? ⟨w.heap.size + 1, 0, none⟩ = some (.int .i64 0) := carry hb1 (by go_simp); have f1_r0 : w1.frozen? ⟨w.heap.size + 1, 0, none⟩ = false := carryf hb1 (v := .int .i64 0) (by go_simp) (by go_simp); have k1_r1 : w1.cell? ⟨w.heap.size + 1, 1, none⟩ = some (.int .i64 0) := carry hb1 (by go_simp); have f1_r1 : w1.frozen? ⟨w.heap.size + 1, 1, none⟩ = false := carryf hb1 (v := .int .i64 0) (by go_simp) (by go_simp); have k1_r2 : w1.cell? ⟨w.heap.size + 1, 2, none⟩ = some (.int .i64 0) := carry hb1 (by go_simp); have f1_r2 : w1.frozen? ⟨w.heap.size + 1, 2, none⟩ = false := carryf hb1 (v := .int .i64 0) (by go_simp) (by go_simp); have z1_r : w.heap.size + 1 < w1.heap.size := World.block_lt_of_cell? _ _ k1_r0; have y1_r : w.heap.size + 1 ≤ w1.heap.size := Nat.le_of_lt z1_r; have HB1 : Hid (Below w.heap.size w w1) := Lib.hid (by repeat (first | exact Below.refl _ _ | (exact Hid.out (by assumption)) | (refine b_set ?_ (by omega) _) | (refine b_alloc ?_ _) | (refine b_drew ?_) | (refine b_drewN ?_ _) | (refine b_then ?_ (by assumption)))); clear hb1
    rw [HC.out]
    go_wp2_with fail
    go_loopw [6] (fun v wr => ∃ (k : Nat) (x y : Int), k ≤ K ∧ v = .int .i64 k ∧ Hid (a.quarter k = ⟨x, y, a.den⟩) ∧ (-1000000000 ≤ x ∧ x ≤ 1000000000) ∧ (-1000000000 ≤ y ∧ y ≤ 1000000000) ∧ (wr.cell? ⟨w.heap.size, 0, none⟩ = some (.int .i64 x) ∧ wr.frozen? ⟨w.heap.size, 0, none⟩ = false) ∧ (wr.cell? ⟨w.heap.size, 1, none⟩ = some (.int .i64 y) ∧ wr.frozen? ⟨w.heap.size, 1, none⟩ = false) ∧ (wr.cell? ⟨w.heap.size, 2, none⟩ = some (.int .i64 a.den) ∧ wr.frozen? ⟨w.heap.size, 2, none⟩ = false) ∧ (wr.cell? ⟨(w.heap.size + 1), 0, none⟩ = some (.int .i64 0) ∧ wr.frozen? ⟨(w.heap.size + 1), 0, none⟩ = false) ∧ (wr.cell? ⟨(w.heap.size + 1), 1, none⟩ = some (.int .i64 0) ∧ wr.frozen? ⟨(w.heap.size + 1), 1, none⟩ = false) ∧ (wr.cell? ⟨(w.heap.size + 1), 2, none⟩ = some (.int .i64 0) ∧ wr.frozen? ⟨(w.heap.size + 1), 2, none⟩ = false) ∧ Hid (Below w.heap.size w wr)) (fun v _ => K - (intOf v).toNat)
    case atStart => exact ⟨0, a.re, a.im, by omega, rfl, Lib.hid rfl, by omega, by omega, ⟨k1_a0, f1_a0⟩, ⟨k1_a1, f1_a1⟩, ⟨k1_a2, f1_a2⟩, ⟨k1_r0, f1_r0⟩, ⟨k1_r1, f1_r1⟩, ⟨k1_r2, f1_r2⟩, HB1⟩
    case round =>
      clear k1_a0 f1_a0 k1_a1 f1_a1 k1_a2 f1_a2 k1_r0 f1_r0 k1_r1 f1_r1 k1_r2 f1_r2 HB1 HC
      obtain ⟨k, x, y, hk, rfl, HX, bx, bY, ⟨c0, f0⟩, ⟨c1, f1⟩, ⟨c2, f2⟩, ⟨c3, f3⟩, ⟨c4, f4⟩, ⟨c5, f5⟩, HBW⟩ := hrel
      by_cases hlt : k < K
      · go_wp2_with fail
        go_roundw
        case rel =>
          exact ⟨k + 1, -y, x, by omega, by go_num, Lib.hid (quarter_step HX.out (by omega)), by omega, by omega, ⟨by go_simp, by go_simp⟩, ⟨by go_simp, by go_simp⟩, ⟨by go_simp, by go_simp⟩, ⟨by go_simp, by go_simp⟩, ⟨by go_simp, by go_simp⟩, ⟨by go_simp, by go_simp⟩, Lib.hid (by repeat (first | exact Below.refl _ _ | (exact Hid.out (by assumption)) | (refine b_set ?_ (by omega) _) | (refine b_alloc ?_ _) | (refine b_drew ?_) | (refine b_drewN ?_ _) | (refine b_then ?_ (by assumption))))⟩
        case measure => simp [intOf]; omega
      · obtain rfl : k = K := by omega
        go_wp2_with fail
        exact bodyPost_ret (v := .tuple #[.agg #[.int .i64 x, .int .i64 y, .int .i64 a.den], .int .i64 0]) (by simp only [results, Try.results20]; go_simp) rfl ⟨by rw [HX.out], by repeat (first | exact Below.refl _ _ | (exact Hid.out (by assumption)) | (refine b_set ?_ (by omega) _) | (refine b_alloc ?_ _) | (refine b_drew ?_) | (refine b_drewN ?_ _) | (refine b_then ?_ (by assumption)))⟩
  · rw [if_neg hok] at hR
    subst hR
    have HC : Hid (Cx.chk ⟨a.re, a.im, a.den⟩ = 8) := Lib.hid (by unfold Cx.chk; rw [if_neg hok])
    clear hok
    go_enter Try.func20, Try.ntmps20
    go_wp2_with fail
    refine (rcheck_any a.re a.im a.den _).mono ?_; rintro e1 w1 ⟨rfl, hb1⟩; have k1_a0 : w1.cell? ⟨w.heap.size, 0, none⟩ = some (.int .i64 a.re) := carry hb1 (by go_simp); have f1_a0 : w1.frozen? ⟨w.heap.size, 0, none⟩ = false := carryf hb1 (v := .int .i64 a.re) (by go_simp) (by go_simp); have k1_a1 : w1.cell? ⟨w.heap.size, 1, none⟩ = some (.int .i64 a.im) := carry hb1 (by go_simp); have f1_a1 : w1.frozen? ⟨w.heap.size, 1, none⟩ = false := carryf hb1 (v := .int .i64 a.im) (by go_simp) (by go_simp); have k1_a2 : w1.cell? ⟨w.heap.size, 2, none⟩ = some (.int .i64 a.den) := carry hb1 (by go_simp); have f1_a2 : w1.frozen? ⟨w.heap.size, 2, none⟩ = false := carryf hb1 (v := .int .i64 a.den) (by go_simp) (by go_simp); have z1_a : w.heap.size < w1.heap.size := World.block_lt_of_cell? _ _ k1_a0; have y1_a : w.heap.size ≤ w1.heap.size := Nat.le_of_lt z1_a; have k1_r0 : w1.cell? ⟨w.heap.size + 1, 0, none⟩ = some (.int .i64 0) := carry hb1 (by go_simp); have f1_r0 : w1.frozen? ⟨w.heap.size + 1, 0, none⟩ = false := carryf hb1 (v := .int .i64 0) (by go_simp) (by go_simp); have k1_r1 : w1.cell? ⟨w.heap.size + 1, 1, none⟩ = some (.int .i64 0) := carry hb1 (by go_simp); have f1_r1 : w1.frozen? ⟨w.heap.size + 1, 1, none⟩ = false := carryf hb1 (v := .int .i64 0) (by go_simp) (by go_simp); have k1_r2 : w1.cell? ⟨w.heap.size + 1, 2, none⟩ = some (.int .i64 0) := carry hb1 (by go_simp); have f1_r2 : w1.frozen? ⟨w.heap.size + 1, 2, none⟩ = false := carryf hb1 (v := .int .i64 0) (by go_simp) (by go_simp); have z1_r : w.heap.size + 1 < w1.heap.size := World.block_lt_of_cell? _ _ k1_r0; have y1_r : w.heap.size + 1 ≤ w1.heap.size := Nat.le_of_lt z1_r; have HB1 : Hid (Below w.heap.size w w1) := Lib.hid (by repeat (first | exact Below.refl _ _ | (exact Hid.out (by assumption)) | (refine b_set ?_ (by omega) _) | (refine b_alloc ?_ _) | (refine b_drew ?_) | (refine b_drewN ?_ _) | (refine b_then ?_ (by assumption)))); clear hb1
    rw [HC.out]
    go_wp2_with fail
    exact bodyPost_ret (v := .tuple #[.agg #[.int .i64 0, .int .i64 0, .int .i64 0], .int .i64 8]) (by simp only [results, Try.results20]; go_simp) rfl ⟨rfl, by repeat (first | exact Below.refl _ _ | (exact Hid.out (by assumption)) | (refine b_set ?_ (by omega) _) | (refine b_alloc ?_ _) | (refine b_drew ?_) | (refine b_drewN ?_ _) | (refine b_then ?_ (by assumption)))⟩


theorem ret2 {a b c d : Int} (h1 : a = b) (h2 : c = d) : Ending.returned (.tuple #[.int .i64 a, .int .i64 c]) = .returned (.tuple #[.int .i64 b, .int .i64 d]) := by rw [h1, h2]

set_option maxHeartbeats 4000000 in
theorem rorder_any (a b : Cx) (w : World) :
    Calls Try.prog 26 #[.agg #[.int .i64 (a).re, .int .i64 (a).im, .int .i64 (a).den], .agg #[.int .i64 (b).re, .int .i64 (b).im, .int .i64 (b).den]] w fun e w' => e = .returned (.tuple #[.int .i64 (Cx.order a b).1, .int .i64 (Cx.order a b).2]) ∧ Below w.heap.size w w' := by
  obtain ⟨R, HR⟩ : ∃ R, Hid (Cx.order a b = R) := ⟨_, Lib.hid rfl⟩
  rw [HR.out]
  have hR := HR.out
  unfold Cx.order at hR
  by_cases hok : (a.ok && b.ok) = true
  · rw [if_pos hok] at hR
    have HB : Hid (Cx.both a b = 0) := Lib.hid (by unfold Cx.both; rw [if_pos hok])
    simp only [Bool.and_eq_true] at hok
    obtain ⟨ha, hb⟩ := hok
    have ba := Cx.bounds ha
    have bb := Cx.bounds hb
    clear ha hb
    obtain ⟨za, HZA⟩ : ∃ z, Hid (a.isZero = z) := ⟨_, Lib.hid rfl⟩
    obtain ⟨zb, HZB⟩ : ∃ z, Hid (b.isZero = z) := ⟨_, Lib.hid rfl⟩
    obtain ⟨qa, HQA⟩ : ∃ z, Hid (a.qtr = z) := ⟨_, Lib.hid rfl⟩
    obtain ⟨qb, HQB⟩ : ∃ z, Hid (b.qtr = z) := ⟨_, Lib.hid rfl⟩
    rw [HZA.out, HZB.out] at hR
    obtain ⟨p1, p2⟩ := mul_bd (x := a.im) (y := b.re) 1000000000 1000000000 (by omega) (by omega) (by omega) (by omega)
    obtain ⟨p3, p4⟩ := mul_bd (x := a.re) (y := b.im) 1000000000 1000000000 (by omega) (by omega) (by omega) (by omega)
    simp only [Int.reduceMul, Int.reduceNeg] at p1 p2 p3 p4
    have HRR := Lib.hid hR
    clear hR
    go_enter Try.func26, Try.ntmps26
    go_wp2_with fail
    refine (rboth_any a b _).mono ?_; rintro e1 w1 ⟨rfl, hb1⟩; have k1_a0 : w1.cell? ⟨w.heap.size, 0, none⟩ = some (.int .i64 a.re) := carry hb1 (by go_simp); have f1_a0 : w1.frozen? ⟨w.heap.size, 0, none⟩ = false := carryf hb1 (v := .int .i64 a.re) (by go_simp) (by go_simp); have k1_a1 : w1.cell? ⟨w.heap.size, 1, none⟩ = some (.int .i64 a.im) := carry hb1 (by go_simp); have f1_a1 : w1.frozen? ⟨w.heap.size, 1, none⟩ = false := carryf hb1 (v := .int .i64 a.im) (by go_simp) (by go_simp); have k1_a2 : w1.cell? ⟨w.heap.size, 2, none⟩ = some (.int .i64 a.den) := carry hb1 (by go_simp); have f1_a2 : w1.frozen? ⟨w.heap.size, 2, none⟩ = false := carryf hb1 (v := .int .i64 a.den) (by go_simp) (by go_simp); have z1_a : w.heap.size < w1.heap.size := World.block_lt_of_cell? _ _ k1_a0; have y1_a : w.heap.size ≤ w1.heap.size := Nat.le_of_lt z1_a; have k1_b0 : w1.cell? ⟨w.heap.size + 1, 0, none⟩ = some (.int .i64 b.re) := carry hb1 (by go_simp); have f1_b0 : w1.frozen? ⟨w.heap.size + 1, 0, none⟩ = false := carryf hb1 (v := .int .i64 b.re) (by go_simp) (by go_simp); have k1_b1 : w1.cell? ⟨w.heap.size + 1, 1, none⟩ = some (.int .i64 b.im) := carry hb1 (by go_simp); have f1_b1 : w1.frozen? ⟨w.heap.size + 1, 1, none⟩ = false := carryf hb1 (v := .int .i64 b.im) (by go_simp) (by go_simp); have k1_b2 : w1.cell? ⟨w.heap.size + 1, 2, none⟩ = some (.int .i64 b.den) := carry hb1 (by go_simp); have f1_b2 : w1.frozen? ⟨w.heap.size + 1, 2, none⟩ = false := carryf hb1 (v := .int .i64 b.den) (by go_simp) (by go_simp); have z1_b : w.heap.size + 1 < w1.heap.size := World.block_lt_of_cell? _ _ k1_b0; have y1_b : w.heap.size + 1 ≤ w1.heap.size := Nat.le_of_lt z1_b; have HB1 : Hid (Below w.heap.size w w1) := Lib.hid (by repeat (first | exact Below.refl _ _ | (exact Hid.out (by assumption)) | (refine b_set ?_ (by omega) _) | (refine b_alloc ?_ _) | (refine b_drew ?_) | (refine b_drewN ?_ _) | (refine b_then ?_ (by assumption)))); clear hb1
    rw [HB.out]
    go_wp2_with fail
    refine (rzero_any a _).mono ?_; rintro e2 w2 ⟨rfl, hb2⟩; have k2_a0 : w2.cell? ⟨w.heap.size, 0, none⟩ = some (.int .i64 a.re) := carry hb2 (by go_simp); have f2_a0 : w2.frozen? ⟨w.heap.size, 0, none⟩ = false := carryf hb2 (v := .int .i64 a.re) (by go_simp) (by go_simp); have k2_a1 : w2.cell? ⟨w.heap.size, 1, none⟩ = some (.int .i64 a.im) := carry hb2 (by go_simp); have f2_a1 : w2.frozen? ⟨w.heap.size, 1, none⟩ = false := carryf hb2 (v := .int .i64 a.im) (by go_simp) (by go_simp); have k2_a2 : w2.cell? ⟨w.heap.size, 2, none⟩ = some (.int .i64 a.den) := carry hb2 (by go_simp); have f2_a2 : w2.frozen? ⟨w.heap.size, 2, none⟩ = false := carryf hb2 (v := .int .i64 a.den) (by go_simp) (by go_simp); have z2_a : w.heap.size < w2.heap.size := World.block_lt_of_cell? _ _ k2_a0; have y2_a : w.heap.size ≤ w2.heap.size := Nat.le_of_lt z2_a; have k2_b0 : w2.cell? ⟨w.heap.size + 1, 0, none⟩ = some (.int .i64 b.re) := carry hb2 (by go_simp); have f2_b0 : w2.frozen? ⟨w.heap.size + 1, 0, none⟩ = false := carryf hb2 (v := .int .i64 b.re) (by go_simp) (by go_simp); have k2_b1 : w2.cell? ⟨w.heap.size + 1, 1, none⟩ = some (.int .i64 b.im) := carry hb2 (by go_simp); have f2_b1 : w2.frozen? ⟨w.heap.size + 1, 1, none⟩ = false := carryf hb2 (v := .int .i64 b.im) (by go_simp) (by go_simp); have k2_b2 : w2.cell? ⟨w.heap.size + 1, 2, none⟩ = some (.int .i64 b.den) := carry hb2 (by go_simp); have f2_b2 : w2.frozen? ⟨w.heap.size + 1, 2, none⟩ = false := carryf hb2 (v := .int .i64 b.den) (by go_simp) (by go_simp); have z2_b : w.heap.size + 1 < w2.heap.size := World.block_lt_of_cell? _ _ k2_b0; have y2_b : w.heap.size + 1 ≤ w2.heap.size := Nat.le_of_lt z2_b; have HB2 : Hid (Below w.heap.size w w2) := Lib.hid (by repeat (first | exact Below.refl _ _ | (exact Hid.out (by assumption)) | (refine b_set ?_ (by omega) _) | (refine b_alloc ?_ _) | (refine b_drew ?_) | (refine b_drewN ?_ _) | (refine b_then ?_ (by assumption)))); clear hb2; (try clear z1_a y1_a k1_a0 f1_a0 k1_a1 f1_a1 k1_a2 f1_a2); (try clear z1_b y1_b k1_b0 f1_b0 k1_b1 f1_b1 k1_b2 f1_b2)
    rw [HZA.out]
    cases za
    · go_wp2_with fail
      refine (rzero_any b _).mono ?_; rintro e3 w3 ⟨rfl, hb3⟩; have k3_a0 : w3.cell? ⟨w.heap.size, 0, none⟩ = some (.int .i64 a.re) := carry hb3 (by go_simp); have f3_a0 : w3.frozen? ⟨w.heap.size, 0, none⟩ = false := carryf hb3 (v := .int .i64 a.re) (by go_simp) (by go_simp); have k3_a1 : w3.cell? ⟨w.heap.size, 1, none⟩ = some (.int .i64 a.im) := carry hb3 (by go_simp); have f3_a1 : w3.frozen? ⟨w.heap.size, 1, none⟩ = false := carryf hb3 (v := .int .i64 a.im) (by go_simp) (by go_simp); have k3_a2 : w3.cell? ⟨w.heap.size, 2, none⟩ = some (.int .i64 a.den) := carry hb3 (by go_simp); have f3_a2 : w3.frozen? ⟨w.heap.size, 2, none⟩ = false := carryf hb3 (v := .int .i64 a.den) (by go_simp) (by go_simp); have z3_a : w.heap.size < w3.heap.size := World.block_lt_of_cell? _ _ k3_a0; have y3_a : w.heap.size ≤ w3.heap.size := Nat.le_of_lt z3_a; have k3_b0 : w3.cell? ⟨w.heap.size + 1, 0, none⟩ = some (.int .i64 b.re) := carry hb3 (by go_simp); have f3_b0 : w3.frozen? ⟨w.heap.size + 1, 0, none⟩ = false := carryf hb3 (v := .int .i64 b.re) (by go_simp) (by go_simp); have k3_b1 : w3.cell? ⟨w.heap.size + 1, 1, none⟩ = some (.int .i64 b.im) := carry hb3 (by go_simp); have f3_b1 : w3.frozen? ⟨w.heap.size + 1, 1, none⟩ = false := carryf hb3 (v := .int .i64 b.im) (by go_simp) (by go_simp); have k3_b2 : w3.cell? ⟨w.heap.size + 1, 2, none⟩ = some (.int .i64 b.den) := carry hb3 (by go_simp); have f3_b2 : w3.frozen? ⟨w.heap.size + 1, 2, none⟩ = false := carryf hb3 (v := .int .i64 b.den) (by go_simp) (by go_simp); have z3_b : w.heap.size + 1 < w3.heap.size := World.block_lt_of_cell? _ _ k3_b0; have y3_b : w.heap.size + 1 ≤ w3.heap.size := Nat.le_of_lt z3_b; have HB3 : Hid (Below w.heap.size w w3) := Lib.hid (by repeat (first | exact Below.refl _ _ | (exact Hid.out (by assumption)) | (refine b_set ?_ (by omega) _) | (refine b_alloc ?_ _) | (refine b_drew ?_) | (refine b_drewN ?_ _) | (refine b_then ?_ (by assumption)))); clear hb3; (try clear z2_a y2_a k2_a0 f2_a0 k2_a1 f2_a1 k2_a2 f2_a2); (try clear z2_b y2_b k2_b0 f2_b0 k2_b1 f2_b1 k2_b2 f2_b2)
      rw [HZB.out]
      cases zb
      · have HEQ := Lib.hid (order_qtr HZA.out HZB.out)
        have HR2 : Hid (R = (if qa < qb ∨ qa = qb ∧ a.im * b.re - a.re * b.im < 0 then -1 else if qb < qa ∨ 0 < a.im * b.re - a.re * b.im then 1 else 0, 0)) := Lib.hid (by
          rw [← HRR.out, ← HQA.out, ← HQB.out, ← HEQ.out]
          simp only [Bool.or_self, Bool.false_eq_true, if_false]
          split <;> rfl)
        go_wp2_with fail
        go_region_held3 (fun w' => w'.cell? ⟨w.heap.size, 0, none⟩ = some (.int .i64 a.re) ∧ w'.cell? ⟨w.heap.size, 1, none⟩ = some (.int .i64 a.im) ∧ w'.cell? ⟨w.heap.size, 2, none⟩ = some (.int .i64 a.den) ∧ w'.cell? ⟨w.heap.size + 1, 0, none⟩ = some (.int .i64 b.re) ∧ w'.cell? ⟨w.heap.size + 1, 1, none⟩ = some (.int .i64 b.im) ∧ w'.cell? ⟨w.heap.size + 1, 2, none⟩ = some (.int .i64 b.den)) (first | exact ⟨k4_a0, k4_a1, k4_a2, k4_b0, k4_b1, k4_b2⟩ | go_keep) (first | (go_at_call 40; refine (quarter_any _ _).mono ?_; rintro e4 w4 ⟨rfl, hb4⟩; have k4_a0 : w4.cell? ⟨w.heap.size, 0, none⟩ = some (.int .i64 a.re) := carry hb4 (by go_simp); have f4_a0 : w4.frozen? ⟨w.heap.size, 0, none⟩ = false := carryf hb4 (v := .int .i64 a.re) (by go_simp) (by go_simp); have k4_a1 : w4.cell? ⟨w.heap.size, 1, none⟩ = some (.int .i64 a.im) := carry hb4 (by go_simp); have f4_a1 : w4.frozen? ⟨w.heap.size, 1, none⟩ = false := carryf hb4 (v := .int .i64 a.im) (by go_simp) (by go_simp); have k4_a2 : w4.cell? ⟨w.heap.size, 2, none⟩ = some (.int .i64 a.den) := carry hb4 (by go_simp); have f4_a2 : w4.frozen? ⟨w.heap.size, 2, none⟩ = false := carryf hb4 (v := .int .i64 a.den) (by go_simp) (by go_simp); have z4_a : w.heap.size < w4.heap.size := World.block_lt_of_cell? _ _ k4_a0; have y4_a : w.heap.size ≤ w4.heap.size := Nat.le_of_lt z4_a; have k4_b0 : w4.cell? ⟨w.heap.size + 1, 0, none⟩ = some (.int .i64 b.re) := carry hb4 (by go_simp); have f4_b0 : w4.frozen? ⟨w.heap.size + 1, 0, none⟩ = false := carryf hb4 (v := .int .i64 b.re) (by go_simp) (by go_simp); have k4_b1 : w4.cell? ⟨w.heap.size + 1, 1, none⟩ = some (.int .i64 b.im) := carry hb4 (by go_simp); have f4_b1 : w4.frozen? ⟨w.heap.size + 1, 1, none⟩ = false := carryf hb4 (v := .int .i64 b.im) (by go_simp) (by go_simp); have k4_b2 : w4.cell? ⟨w.heap.size + 1, 2, none⟩ = some (.int .i64 b.den) := carry hb4 (by go_simp); have f4_b2 : w4.frozen? ⟨w.heap.size + 1, 2, none⟩ = false := carryf hb4 (v := .int .i64 b.den) (by go_simp) (by go_simp); have z4_b : w.heap.size + 1 < w4.heap.size := World.block_lt_of_cell? _ _ k4_b0; have y4_b : w.heap.size + 1 ≤ w4.heap.size := Nat.le_of_lt z4_b; have HB4 : Hid (Below w.heap.size w w4) := Lib.hid (by repeat (first | exact Below.refl _ _ | (exact Hid.out (by assumption)) | (refine b_set ?_ (by omega) _) | (refine b_alloc ?_ _) | (refine b_drew ?_) | (refine b_drewN ?_ _) | (refine b_then ?_ (by assumption)))); clear hb4; first | rw [HQA.out] | rw [HQB.out]))
        obtain ⟨tt, HTT⟩ : ∃ tt, Hid (a.im * b.re - a.re * b.im = tt) := ⟨_, Lib.hid rfl⟩
        rw [HTT.out] at HR2
        have htt := HTT.out
        go_wp2_with fail
        all_goals
          go_ret2
          exact ⟨by rw [HR2.out]; exact ret2 (by have := HTT.out; first | (rw [if_pos (by omega)]; done) | (rw [if_neg (by omega), if_pos (by omega)]; done) | (rw [if_neg (by omega), if_neg (by omega)]; done)) rfl, by repeat (first | exact Below.refl _ _ | (exact Hid.out (by assumption)) | (refine b_set ?_ (by omega) _) | (refine b_alloc ?_ _) | (refine b_drew ?_) | (refine b_drewN ?_ _) | (refine b_then ?_ (by assumption)))⟩
      · go_wp2_with fail
        go_ret2
        exact ⟨by rw [← HRR.out]; rfl, by repeat (first | exact Below.refl _ _ | (exact Hid.out (by assumption)) | (refine b_set ?_ (by omega) _) | (refine b_alloc ?_ _) | (refine b_drew ?_) | (refine b_drewN ?_ _) | (refine b_then ?_ (by assumption)))⟩
    · go_wp2_with fail
      go_ret2
      exact ⟨by rw [← HRR.out]; rfl, by repeat (first | exact Below.refl _ _ | (exact Hid.out (by assumption)) | (refine b_set ?_ (by omega) _) | (refine b_alloc ?_ _) | (refine b_drew ?_) | (refine b_drewN ?_ _) | (refine b_then ?_ (by assumption)))⟩
  · rw [if_neg hok] at hR
    have HB : Hid (Cx.both a b = 8) := Lib.hid (by unfold Cx.both; rw [if_neg hok])
    subst hR
    clear hok
    go_enter Try.func26, Try.ntmps26
    go_wp2_with fail
    refine (rboth_any a b _).mono ?_; rintro e1 w1 ⟨rfl, hb1⟩; have k1_a0 : w1.cell? ⟨w.heap.size, 0, none⟩ = some (.int .i64 a.re) := carry hb1 (by go_simp); have f1_a0 : w1.frozen? ⟨w.heap.size, 0, none⟩ = false := carryf hb1 (v := .int .i64 a.re) (by go_simp) (by go_simp); have k1_a1 : w1.cell? ⟨w.heap.size, 1, none⟩ = some (.int .i64 a.im) := carry hb1 (by go_simp); have f1_a1 : w1.frozen? ⟨w.heap.size, 1, none⟩ = false := carryf hb1 (v := .int .i64 a.im) (by go_simp) (by go_simp); have k1_a2 : w1.cell? ⟨w.heap.size, 2, none⟩ = some (.int .i64 a.den) := carry hb1 (by go_simp); have f1_a2 : w1.frozen? ⟨w.heap.size, 2, none⟩ = false := carryf hb1 (v := .int .i64 a.den) (by go_simp) (by go_simp); have z1_a : w.heap.size < w1.heap.size := World.block_lt_of_cell? _ _ k1_a0; have y1_a : w.heap.size ≤ w1.heap.size := Nat.le_of_lt z1_a; have k1_b0 : w1.cell? ⟨w.heap.size + 1, 0, none⟩ = some (.int .i64 b.re) := carry hb1 (by go_simp); have f1_b0 : w1.frozen? ⟨w.heap.size + 1, 0, none⟩ = false := carryf hb1 (v := .int .i64 b.re) (by go_simp) (by go_simp); have k1_b1 : w1.cell? ⟨w.heap.size + 1, 1, none⟩ = some (.int .i64 b.im) := carry hb1 (by go_simp); have f1_b1 : w1.frozen? ⟨w.heap.size + 1, 1, none⟩ = false := carryf hb1 (v := .int .i64 b.im) (by go_simp) (by go_simp); have k1_b2 : w1.cell? ⟨w.heap.size + 1, 2, none⟩ = some (.int .i64 b.den) := carry hb1 (by go_simp); have f1_b2 : w1.frozen? ⟨w.heap.size + 1, 2, none⟩ = false := carryf hb1 (v := .int .i64 b.den) (by go_simp) (by go_simp); have z1_b : w.heap.size + 1 < w1.heap.size := World.block_lt_of_cell? _ _ k1_b0; have y1_b : w.heap.size + 1 ≤ w1.heap.size := Nat.le_of_lt z1_b; have HB1 : Hid (Below w.heap.size w w1) := Lib.hid (by repeat (first | exact Below.refl _ _ | (exact Hid.out (by assumption)) | (refine b_set ?_ (by omega) _) | (refine b_alloc ?_ _) | (refine b_drew ?_) | (refine b_drewN ?_ _) | (refine b_then ?_ (by assumption)))); clear hb1
    rw [HB.out]
    go_wp2_with fail
    go_ret2
    exact ⟨rfl, by repeat (first | exact Below.refl _ _ | (exact Hid.out (by assumption)) | (refine b_set ?_ (by omega) _) | (refine b_alloc ?_ _) | (refine b_drew ?_) | (refine b_drewN ?_ _) | (refine b_then ?_ (by assumption)))⟩

end Go.Proofs.Ytdjdjbopddkndaa.A
