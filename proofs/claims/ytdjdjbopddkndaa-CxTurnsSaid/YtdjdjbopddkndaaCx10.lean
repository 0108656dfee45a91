/- Turns and the order of rays of layer 25. -/
import Derived.Test.YtdjdjbopddkndaaProg
import Derived.Below
import Derived.Deep.Draws
import Derived.OwnWalk
import Derived.Tactics
import Derived.WalkKit
import Derived.KernelRfl
import Derived.Deep.LoopGhost
import Derived.Deep.QuietTactic
import Derived.BigQuiet
import Derived.Deep.DeepCutAuto
import Derived.Deep.RegionHeld3
import Derived.StillTailTactics
import Derived.WalkLawsBesides
import Derived.Lib.Hide
import Derived.Outline
import Derived.BigRegion
import Derived.Test.YtdjdjbopddkndaaMath
import Derived.Test.YtdjdjbopddkndaaLib
import Derived.Test.YtdjdjbopddkndaaCx1
import Derived.Test.YtdjdjbopddkndaaCx2
import Derived.Test.YtdjdjbopddkndaaCx3
import Derived.Test.YtdjdjbopddkndaaCx6
import Derived.Test.YtdjdjbopddkndaaCxM4
import Derived.Test.YtdjdjbopddkndaaBits
namespace Go.Proofs.Ytdjdjbopddkndaa.A
open Go.RowKit Go.BigFrame Go.Proofs.Ytdjdjbopddkndaa.M
set_option linter.unusedVariables false
set_option linter.unusedSimpArgs false

theorem nan_any (x : Int) (w : World) : Calls Try.prog 42 #[.int .i64 x] w fun e w' => e = .returned (.bool false) ∧ w = w' := by
  go_enter Try.func42, Try.ntmps42
  go_wp2_with fail
  go_ret
  exact ⟨ret_bool (by simp), rfl⟩

set_option maxHeartbeats 1000000 in
theorem compare_any (x y : Int) (w : World) : Calls Try.prog 39 #[.int .i64 x, .int .i64 y] w fun e w' => e = .returned (.int .i64 (cmpI x y)) ∧ w = w' := by
  unfold cmpI
  obtain ⟨R, HR⟩ : ∃ R : Int, Hid ((if x < y then (-1 : Int) else if x = y then 0 else 1) = R) := ⟨_, Lib.hid rfl⟩
  rw [HR.out]
  by_cases h1 : x < y
  · have hR := HR.out
    rw [if_pos h1] at hR
    subst hR
    go_enter Try.func39, Try.ntmps39
    go_wp2_with (go_at_call 42; refine (nan_any _ _).mono ?_; rintro e1 w1 ⟨rfl, rfl⟩)
    go_ret
    exact ⟨rfl, rfl⟩
  · have hR := HR.out
    rw [if_neg h1] at hR
    by_cases h2 : x = y
    · rw [if_pos h2] at hR
      subst hR h2
      go_enter Try.func39, Try.ntmps39
      go_wp2_with (go_at_call 42; refine (nan_any _ _).mono ?_; rintro e1 w1 ⟨rfl, rfl⟩)
      go_ret
      exact ⟨rfl, rfl⟩
    · rw [if_neg h2] at hR
      subst hR
      have h3 : y < x := by omega
      clear h2
      go_enter Try.func39, Try.ntmps39
      go_wp2_with (go_at_call 42; refine (nan_any _ _).mono ?_; rintro e1 w1 ⟨rfl, rfl⟩)
      go_ret
      exact ⟨rfl, rfl⟩

theorem upper_any (a : Cx) (w : World) : Calls Try.prog 38 #[.agg #[.int .i64 (a).re, .int .i64 (a).im, .int .i64 (a).den]] w fun e w' => e = .returned (.bool a.upper) ∧ Below w.heap.size w w' := by
  obtain ⟨U, HU⟩ : ∃ U, Hid (a.upper = U) := ⟨_, Lib.hid rfl⟩
  rw [HU.out]
  cases d1 : decide (0 < a.im)
  · have h1 := of_decide_eq_false d1
    cases d2 : a.im == 0
    · have hU := HU.out
      unfold Cx.upper at hU
      rw [d1, d2] at hU
      simp only [Bool.false_or, Bool.false_and] at hU
      subst hU
      go_enter Try.func38, Try.ntmps38
      go_wp2_with fail
      go_ret
      exact ⟨rfl, by repeat (first | exact Below.refl _ _ | (exact Hid.out (by assumption)) | (refine b_set ?_ (by omega) _) | (refine b_alloc ?_ _) | (refine b_drew ?_) | (refine b_drewN ?_ _) | (refine b_then ?_ (by assumption)))⟩
    · have hU := HU.out
      unfold Cx.upper at hU
      rw [d1, d2] at hU
      simp only [Bool.false_or, Bool.true_and] at hU
      subst hU
      go_enter Try.func38, Try.ntmps38
      go_wp2_with fail
      go_ret
      exact ⟨rfl, by repeat (first | exact Below.refl _ _ | (exact Hid.out (by assumption)) | (refine b_set ?_ (by omega) _) | (refine b_alloc ?_ _) | (refine b_drew ?_) | (refine b_drewN ?_ _) | (refine b_then ?_ (by assumption)))⟩
  · have h1 := of_decide_eq_true d1
    have hU := HU.out
    unfold Cx.upper at hU
    rw [d1] at hU
    simp only [Bool.true_or] at hU
    subst hU
    go_enter Try.func38, Try.ntmps38
    go_wp2_with fail
    go_ret
    exact ⟨rfl, by repeat (first | exact Below.refl _ _ | (exact Hid.out (by assumption)) | (refine b_set ?_ (by omega) _) | (refine b_alloc ?_ _) | (refine b_drew ?_) | (refine b_drewN ?_ _) | (refine b_then ?_ (by assumption)))⟩

set_option maxHeartbeats 4000000 in
theorem turn_any (a : Cx) (q : Int) (hq : -9223372036854775808 ≤ q ∧ q ≤ 9223372036854775807) (w : World) :
    Calls Try.prog 19 #[.agg #[.int .i64 (a).re, .int .i64 (a).im, .int .i64 (a).den], .int .i64 q] w fun e w' => e = .returned (.tuple #[.agg #[.int .i64 ((Cx.turn a q).1).re, .int .i64 ((Cx.turn a q).1).im, .int .i64 ((Cx.turn a q).1).den], .int .i64 (Cx.turn a q).2]) ∧ Below w.heap.size w w' := by
  obtain ⟨R, HR⟩ : ∃ R, Hid (Cx.turn a q = R) := ⟨_, Lib.hid rfl⟩
  rw [HR.out]
  have hR := HR.out
  unfold Cx.turn at hR
  by_cases hok : a.ok = true
  · rw [if_pos hok] at hR
    have HC : Hid (Cx.chk ⟨a.re, a.im, a.den⟩ = 0) := Lib.hid (by unfold Cx.chk; rw [if_pos hok])
    have ba := Cx.bounds hok
    clear hok
    have hb := and3_i64 q
    obtain ⟨k, hk⟩ : ∃ k, q % 4 = k := ⟨_, rfl⟩
    rw [hk] at hb hR
    have hk4 : k = 0 ∨ k = 1 ∨ k = 2 ∨ k = 3 := by omega
    clear hk
    rcases hk4 with rfl | rfl | rfl | rfl
    all_goals
      simp only [Cx.quarter, if_true, if_false, Int.reduceEq] at hR
      subst hR
      go_enter Try.func19, Try.ntmps19
      go_wp2_with fail
      refine (check_any a.re a.im a.den _).mono ?_; rintro e1 w1 ⟨rfl, hb1⟩; have k1_a0 : w1.cell? ⟨w.heap.size, 0, none⟩ = some (.int .i64 a.re) := carry hb1 (by go_simp); have f1_a0 : w1.frozen? ⟨w.heap.size, 0, none⟩ = false := carryf hb1 (v := .int .i64 a.re) (by go_simp) (by go_simp); have k1_a1 : w1.cell? ⟨w.heap.size, 1, none⟩ = some (.int .i64 a.im) := carry hb1 (by go_simp); have f1_a1 : w1.frozen? ⟨w.heap.size, 1, none⟩ = false := carryf hb1 (v := .int .i64 a.im) (by go_simp) (by go_simp); have k1_a2 : w1.cell? ⟨w.heap.size, 2, none⟩ = some (.int .i64 a.den) := carry hb1 (by go_simp); have f1_a2 : w1.frozen? ⟨w.heap.size, 2, none⟩ = false := carryf hb1 (v := .int .i64 a.den) (by go_simp) (by go_simp); have z1_a : w.heap.size < w1.heap.size := World.block_lt_of_cell? _ _ k1_a0; have y1_a : w.heap.size ≤ w1.heap.size := Nat.le_of_lt z1_a; have k1_r0 : w1.cell? ⟨w.heap.size + 1, 0, none⟩ = some (.int .i64 0) := carry hb1 (by go_simp); have f1_r0 : w1.frozen? ⟨w.heap.size + 1, 0, none⟩ = false := carryf hb1 (v := .int .i64 0) (by go_simp) (by go_simp); have k1_r1 : w1.cell? ⟨w.heap.size + 1, 1, none⟩ = some (.int .i64 0) := carry hb1 (by go_simp); have f1_r1 : w1.frozen? ⟨w.heap.size + 1, 1, none⟩ = false := carryf hb1 (v := .int .i64 0) (by go_simp) (by go_simp); have k1_r2 : w1.cell? ⟨w.heap.size + 1, 2, none⟩ = some (.int .i64 0) := carry hb1 (by go_simp); have f1_r2 : w1.frozen? ⟨w.heap.size + 1, 2, none⟩ = false := carryf hb1 (v := .int .i64 0) (by go_simp) (by go_simp); have z1_r : w.heap.size + 1 < w1.heap.size := World.block_lt_of_cell? _ _ k1_r0; have y1_r : w.heap.size + 1 ≤ w1.heap.size := Nat.le_of_lt z1_r; have HB1 : Hid (Below w.heap.size w w1) := Lib.hid (by repeat (first | exact Below.refl _ _ | (exact Hid.out (by assumption)) | (refine b_set ?_ (by omega) _) | (refine b_alloc ?_ _) | (refine b_drew ?_) | (refine b_drewN ?_ _) | (refine b_then ?_ (by assumption)))); clear hb1
      rw [HC.out]
      go_wp2_with fail
      first
      | exact bodyPost_ret (v := .tuple #[.agg #[.int .i64 a.re, .int .i64 a.im, .int .i64 a.den], .int .i64 0]) (by simp only [results, Try.results19]; go_simp) rfl ⟨rfl, by repeat (first | exact Below.refl _ _ | (exact Hid.out (by assumption)) | (refine b_set ?_ (by omega) _) | (refine b_alloc ?_ _) | (refine b_drew ?_) | (refine b_drewN ?_ _) | (refine b_then ?_ (by assumption)))⟩
      | exact bodyPost_ret (v := .tuple #[.agg #[.int .i64 (-a.im), .int .i64 a.re, .int .i64 a.den], .int .i64 0]) (by simp only [results, Try.results19]; go_simp) rfl ⟨rfl, by repeat (first | exact Below.refl _ _ | (exact Hid.out (by assumption)) | (refine b_set ?_ (by omega) _) | (refine b_alloc ?_ _) | (refine b_drew ?_) | (refine b_drewN ?_ _) | (refine b_then ?_ (by assumption)))⟩
      | exact bodyPost_ret (v := .tuple #[.agg #[.int .i64 (-a.re), .int .i64 (-a.im), .int .i64 a.den], .int .i64 0]) (by simp only [results, Try.results19]; go_simp) rfl ⟨rfl, by repeat (first | exact Below.refl _ _ | (exact Hid.out (by assumption)) | (refine b_set ?_ (by omega) _) | (refine b_alloc ?_ _) | (refine b_drew ?_) | (refine b_drewN ?_ _) | (refine b_then ?_ (by assumption)))⟩
      | exact bodyPost_ret (v := .tuple #[.agg #[.int .i64 a.im, .int .i64 (-a.re), .int .i64 a.den], .int .i64 0]) (by simp only [results, Try.results19]; go_simp) rfl ⟨rfl, by repeat (first | exact Below.refl _ _ | (exact Hid.out (by assumption)) | (refine b_set ?_ (by omega) _) | (refine b_alloc ?_ _) | (refine b_drew ?_) | (refine b_drewN ?_ _) | (refine b_then ?_ (by assumption)))⟩
  · rw [if_neg hok] at hR
    subst hR
    have HC : Hid (Cx.chk ⟨a.re, a.im, a.den⟩ = 8) := Lib.hid (by unfold Cx.chk; rw [if_neg hok])
    clear hok
    go_enter Try.func19, Try.ntmps19
    go_wp2_with fail
    refine (check_any a.re a.im a.den _).mono ?_; rintro e1 w1 ⟨rfl, hb1⟩; have k1_a0 : w1.cell? ⟨w.heap.size, 0, none⟩ = some (.int .i64 a.re) := carry hb1 (by go_simp); have f1_a0 : w1.frozen? ⟨w.heap.size, 0, none⟩ = false := carryf hb1 (v := .int .i64 a.re) (by go_simp) (by go_simp); have k1_a1 : w1.cell? ⟨w.heap.size, 1, none⟩ = some (.int .i64 a.im) := carry hb1 (by go_simp); have f1_a1 : w1.frozen? ⟨w.heap.size, 1, none⟩ = false := carryf hb1 (v := .int .i64 a.im) (by go_simp) (by go_simp); have k1_a2 : w1.cell? ⟨w.heap.size, 2, none⟩ = some (.int .i64 a.den) := carry hb1 (by go_simp); have f1_a2 : w1.frozen? ⟨w.heap.size, 2, none⟩ = false := carryf hb1 (v := .int .i64 a.den) (by go_simp) (by go_simp); have z1_a : w.heap.size < w1.heap.size := World.block_lt_of_cell? _ _ k1_a0; have y1_a : w.heap.size ≤ w1.heap.size := Nat.le_of_lt z1_a; have k1_r0 : w1.cell? ⟨w.heap.size + 1, 0, none⟩ = some (.int .i64 0) := carry hb1 (by go_simp); have f1_r0 : w1.frozen? ⟨w.heap.size + 1, 0, none⟩ = false := carryf hb1 (v := .int .i64 0) (by go_simp) (by go_simp); have k1_r1 : w1.cell? ⟨w.heap.size + 1, 1, none⟩ = some (.int .i64 0) := carry hb1 (by go_simp); have f1_r1 : w1.frozen? ⟨w.heap.size + 1, 1, none⟩ = false := carryf hb1 (v := .int .i64 0) (by go_simp) (by go_simp); have k1_r2 : w1.cell? ⟨w.heap.size + 1, 2, none⟩ = some (.int .i64 0) := carry hb1 (by go_simp); have f1_r2 : w1.frozen? ⟨w.heap.size + 1, 2, none⟩ = false := carryf hb1 (v := .int .i64 0) (by go_simp) (by go_simp); have z1_r : w.heap.size + 1 < w1.heap.size := World.block_lt_of_cell? _ _ k1_r0; have y1_r : w.heap.size + 1 ≤ w1.heap.size := Nat.le_of_lt z1_r; have HB1 : Hid (Below w.heap.size w w1) := Lib.hid (by repeat (first | exact Below.refl _ _ | (exact Hid.out (by assumption)) | (refine b_set ?_ (by omega) _) | (refine b_alloc ?_ _) | (refine b_drew ?_) | (refine b_drewN ?_ _) | (refine b_then ?_ (by assumption)))); clear hb1
    rw [HC.out]
    go_wp2_with fail
    exact bodyPost_ret (v := .tuple #[.agg #[.int .i64 0, .int .i64 0, .int .i64 0], .int .i64 8]) (by simp only [results, Try.results19]; go_simp) rfl ⟨rfl, by repeat (first | exact Below.refl _ _ | (exact Hid.out (by assumption)) | (refine b_set ?_ (by omega) _) | (refine b_alloc ?_ _) | (refine b_drew ?_) | (refine b_drewN ?_ _) | (refine b_then ?_ (by assumption)))⟩

end Go.Proofs.Ytdjdjbopddkndaa.A
