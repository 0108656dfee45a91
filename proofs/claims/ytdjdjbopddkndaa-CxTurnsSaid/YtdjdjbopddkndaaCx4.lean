/- Check of the reference of layer 25. -/
import Derived.Test.YtdjdjbopddkndaaProg
import Derived.Below
import Derived.Deep.Draws
import Derived.OwnWalk
import Derived.Tactics
import Derived.WalkKit
import Derived.KernelRfl
import Derived.Deep.LoopGhost
import Derived.Deep.QuietTactic
import Derived.BigQuiet
import Derived.Deep.DeepCutAuto
import Derived.Deep.RegionHeld3
import Derived.StillTailTactics
import Derived.WalkLawsBesides
import Derived.Lib.Hide
import Derived.Outline
import Derived.BigRegion
import Derived.Test.YtdjdjbopddkndaaMath
import Derived.Test.YtdjdjbopddkndaaLib
import Derived.Test.YtdjdjbopddkndaaCx1
namespace Go.Proofs.Ytdjdjbopddkndaa.A
open Go.RowKit Go.BigFrame Go.Proofs.Ytdjdjbopddkndaa.M
set_option linter.unusedVariables false
set_option linter.unusedSimpArgs false

set_option maxHeartbeats 1000000 in
theorem rcheck_out0 (a b c : Int)  (d0 : decide (c < 1) = true) (w : World) :
    Calls Try.prog 14 #[.agg #[.int .i64 a, .int .i64 b, .int .i64 c]] w fun e w' => e = .returned (.int .i64 8) ∧ Below w.heap.size w w' := by
  go_enter Try.func14, Try.ntmps14
  go_wp2_with fail
  go_quiet (fail)
  go_wp2_with fail
  go_ret
  exact ⟨rfl, by repeat (first | exact Below.refl _ _ | (refine b_set ?_ (by omega) _) | (refine b_alloc ?_ _) | (refine b_drew ?_) | (refine b_drewN ?_ _) | (refine b_then ?_ (by assumption)))⟩

set_option maxHeartbeats 1000000 in
theorem rcheck_out1 (a b c : Int) (d0 : decide (c < 1) = false) (d1 : decide (1000000000 < c) = true) (w : World) :
    Calls Try.prog 14 #[.agg #[.int .i64 a, .int .i64 b, .int .i64 c]] w fun e w' => e = .returned (.int .i64 8) ∧ Below w.heap.size w w' := by
  go_enter Try.func14, Try.ntmps14
  go_wp2_with fail
  go_quiet (fail)
  go_wp2_with fail
  go_ret
  exact ⟨rfl, by repeat (first | exact Below.refl _ _ | (refine b_set ?_ (by omega) _) | (refine b_alloc ?_ _) | (refine b_drew ?_) | (refine b_drewN ?_ _) | (refine b_then ?_ (by assumption)))⟩

set_option maxHeartbeats 1000000 in
theorem rcheck_out2 (a b c : Int) (d0 : decide (c < 1) = false) (d1 : decide (1000000000 < c) = false) (d2 : decide (a < -1000000000) = true) (w : World) :
    Calls Try.prog 14 #[.agg #[.int .i64 a, .int .i64 b, .int .i64 c]] w fun e w' => e = .returned (.int .i64 8) ∧ Below w.heap.size w w' := by
  go_enter Try.func14, Try.ntmps14
  go_wp2_with fail
  go_quiet (fail)
  go_wp2_with fail
  go_ret
  exact ⟨rfl, by repeat (first | exact Below.refl _ _ | (refine b_set ?_ (by omega) _) | (refine b_alloc ?_ _) | (refine b_drew ?_) | (refine b_drewN ?_ _) | (refine b_then ?_ (by assumption)))⟩

set_option maxHeartbeats 1000000 in
theorem rcheck_out3 (a b c : Int) (d0 : decide (c < 1) = false) (d1 : decide (1000000000 < c) = false) (d2 : decide (a < -1000000000) = false) (d3 : decide (1000000000 < a) = true) (w : World) :
    Calls Try.prog 14 #[.agg #[.int .i64 a, .int .i64 b, .int .i64 c]] w fun e w' => e = .returned (.int .i64 8) ∧ Below w.heap.size w w' := by
  go_enter Try.func14, Try.ntmps14
  go_wp2_with fail
  go_quiet (fail)
  go_wp2_with fail
  go_ret
  exact ⟨rfl, by repeat (first | exact Below.refl _ _ | (refine b_set ?_ (by omega) _) | (refine b_alloc ?_ _) | (refine b_drew ?_) | (refine b_drewN ?_ _) | (refine b_then ?_ (by assumption)))⟩

set_option maxHeartbeats 1000000 in
theorem rcheck_out4 (a b c : Int) (d0 : decide (c < 1) = false) (d1 : decide (1000000000 < c) = false) (d2 : decide (a < -1000000000) = false) (d3 : decide (1000000000 < a) = false) (d4 : decide (b < -1000000000) = true) (w : World) :
    Calls Try.prog 14 #[.agg #[.int .i64 a, .int .i64 b, .int .i64 c]] w fun e w' => e = .returned (.int .i64 8) ∧ Below w.heap.size w w' := by
  go_enter Try.func14, Try.ntmps14
  go_wp2_with fail
  go_quiet (fail)
  go_wp2_with fail
  go_ret
  exact ⟨rfl, by repeat (first | exact Below.refl _ _ | (refine b_set ?_ (by omega) _) | (refine b_alloc ?_ _) | (refine b_drew ?_) | (refine b_drewN ?_ _) | (refine b_then ?_ (by assumption)))⟩

set_option maxHeartbeats 1000000 in
theorem rcheck_out5 (a b c : Int) (d0 : decide (c < 1) = false) (d1 : decide (1000000000 < c) = false) (d2 : decide (a < -1000000000) = false) (d3 : decide (1000000000 < a) = false) (d4 : decide (b < -1000000000) = false) (d5 : decide (1000000000 < b) = true) (w : World) :
    Calls Try.prog 14 #[.agg #[.int .i64 a, .int .i64 b, .int .i64 c]] w fun e w' => e = .returned (.int .i64 8) ∧ Below w.heap.size w w' := by
  go_enter Try.func14, Try.ntmps14
  go_wp2_with fail
  go_quiet (fail)
  go_wp2_with fail
  go_ret
  exact ⟨rfl, by repeat (first | exact Below.refl _ _ | (refine b_set ?_ (by omega) _) | (refine b_alloc ?_ _) | (refine b_drew ?_) | (refine b_drewN ?_ _) | (refine b_then ?_ (by assumption)))⟩

set_option maxHeartbeats 4000000 in
theorem rcheck_in (a b c : Int) (g G : Nat) (hgg : Int.gcd a b = g) (hGG : Int.gcd g c = G) (C : Int) (hC : C = if G = 1 then 0 else 8) (g1 : (g : Int) ≤ 1000000000)
    (d0 : decide (c < 1) = false) (d1 : decide (1000000000 < c) = false) (d2 : decide (a < -1000000000) = false) (d3 : decide (1000000000 < a) = false) (d4 : decide (b < -1000000000) = false) (d5 : decide (1000000000 < b) = false) (w : World) :
    Calls Try.prog 14 #[.agg #[.int .i64 a, .int .i64 b, .int .i64 c]] w fun e w' => e = .returned (.int .i64 C) ∧ Below w.heap.size w w' := by
  have t0 := of_decide_eq_false d0
  have t1 := of_decide_eq_false d1
  have t2 := of_decide_eq_false d2
  have t3 := of_decide_eq_false d3
  have t4 := of_decide_eq_false d4
  have t5 := of_decide_eq_false d5
  have HGG := Lib.hid hgg
  have HG3 := Lib.hid hGG
  clear hgg hGG
  have hgb : ((G : Int) != 1) = !decide (G = 1) := by
    rw [Bool.eq_iff_iff]; simp; omega
  have hC' : C = if decide (G = 1) then 0 else 8 := by rw [hC]; simp
  clear hC
  cases hd : decide (G = 1)
  all_goals
    rw [hd] at hgb hC'
    simp only [Bool.not_true, Bool.not_false, Bool.false_eq_true, if_true, if_false] at hgb hC'
    subst hC'
    clear hd
    go_enter Try.func14, Try.ntmps14
    go_wp2_with fail
    go_quiet ((go_at_call 35; exact Calls.quiet_of (gcd2_q _ _ _ (by first | exact HGG.out | exact HG3.out) (by omega) (by omega) _)))
    go_wp2_with fail
    go_ret
    exact ⟨rfl, by repeat (first | exact Below.refl _ _ | (refine b_set ?_ (by omega) _) | (refine b_alloc ?_ _) | (refine b_drew ?_) | (refine b_drewN ?_ _) | (refine b_then ?_ (by assumption)))⟩

theorem rcheck_any (a b c : Int) (w : World) :
    Calls Try.prog 14 #[.agg #[.int .i64 a, .int .i64 b, .int .i64 c]] w fun e w' => e = .returned (.int .i64 (Cx.chk ⟨a, b, c⟩)) ∧ Below w.heap.size w w' := by
  cases d0 : decide (c < 1) with
  | true => rw [Cx.chk_out (by have := of_decide_eq_true d0; omega)]; exact rcheck_out0 a b c d0 w
  | false =>
  cases d1 : decide (1000000000 < c) with
  | true => rw [Cx.chk_out (by have := of_decide_eq_true d1; omega)]; exact rcheck_out1 a b c d0 d1 w
  | false =>
  cases d2 : decide (a < -1000000000) with
  | true => rw [Cx.chk_out (by have := of_decide_eq_true d2; omega)]; exact rcheck_out2 a b c d0 d1 d2 w
  | false =>
  cases d3 : decide (1000000000 < a) with
  | true => rw [Cx.chk_out (by have := of_decide_eq_true d3; omega)]; exact rcheck_out3 a b c d0 d1 d2 d3 w
  | false =>
  cases d4 : decide (b < -1000000000) with
  | true => rw [Cx.chk_out (by have := of_decide_eq_true d4; omega)]; exact rcheck_out4 a b c d0 d1 d2 d3 d4 w
  | false =>
  cases d5 : decide (1000000000 < b) with
  | true => rw [Cx.chk_out (by have := of_decide_eq_true d5; omega)]; exact rcheck_out5 a b c d0 d1 d2 d3 d4 d5 w
  | false =>
  have hC := Cx.chk_in (a := a) (b := b) (c := c) (by
    have := of_decide_eq_false d0; have := of_decide_eq_false d1; have := of_decide_eq_false d2; have := of_decide_eq_false d3; have := of_decide_eq_false d4; have := of_decide_eq_false d5; omega)
  have g1 : (Int.gcd a b : Int) ≤ 1000000000 := by
    have := gcd_le_abs a b; have := of_decide_eq_false d2; have := of_decide_eq_false d3; have := of_decide_eq_false d4; have := of_decide_eq_false d5; omega
  exact rcheck_in a b c _ _ rfl rfl _ hC g1 d0 d1 d2 d3 d4 d5 w

theorem rboth_any (a b : Cx) (w : World) :
    Calls Try.prog 29 #[.agg #[.int .i64 (a).re, .int .i64 (a).im, .int .i64 (a).den], .agg #[.int .i64 (b).re, .int .i64 (b).im, .int .i64 (b).den]] w fun e w' => e = .returned (.int .i64 (Cx.both a b)) ∧ Below w.heap.size w w' := by
  cases ha : a.ok
  · have HA : Hid (Cx.chk a = 8) := Lib.hid (by unfold Cx.chk; rw [ha]; rfl)
    have hB : Cx.both a b = 8 := by unfold Cx.both; rw [ha]; rfl
    rw [hB]
    clear hB ha
    go_enter Try.func29, Try.ntmps29
    go_wp2_with fail
    refine (rcheck_any a.re a.im a.den _).mono ?_; rintro e1 w1 ⟨rfl, hb1⟩; obtain ⟨hc1, hf1⟩ := bcell hb1; have hs1 := hb1.size; (try simp at hs1); (try have z1_w_0 : w.heap.size < w1.heap.size := (by omega)); (try have y1_w_0 : w.heap.size ≤ w1.heap.size := (by omega)); (try have z1_w_1 : w.heap.size + 1 < w1.heap.size := (by omega)); (try have y1_w_1 : w.heap.size + 1 ≤ w1.heap.size := (by omega))
    rw [show Cx.chk ⟨a.re, a.im, a.den⟩ = 8 from HA.out]
    go_wp2_with fail
    go_ret
    exact ⟨rfl, by repeat (first | exact Below.refl _ _ | (refine b_set ?_ (by omega) _) | (refine b_alloc ?_ _) | (refine b_drew ?_) | (refine b_drewN ?_ _) | (refine b_then ?_ (by assumption)))⟩
  · have HA : Hid (Cx.chk a = 0) := Lib.hid (by unfold Cx.chk; rw [ha]; rfl)
    cases hb : b.ok
    all_goals
      have HB0 : Cx.chk ⟨b.re, b.im, b.den⟩ = if b.ok then 0 else 8 := rfl
      have hB : Cx.both a b = if a.ok && b.ok then 0 else 8 := rfl
      rw [ha, hb] at hB
      rw [hb] at HB0
      simp only [Bool.false_eq_true, if_false, if_true, Bool.and_true, Bool.and_false] at hB HB0
      rw [hB]
      have HB := Lib.hid HB0
      clear hB ha hb HB0
      go_enter Try.func29, Try.ntmps29
      go_wp2_with fail
      refine (rcheck_any a.re a.im a.den _).mono ?_; rintro e1 w1 ⟨rfl, hb1⟩; obtain ⟨hc1, hf1⟩ := bcell hb1; have hs1 := hb1.size; (try simp at hs1); (try have z1_w_0 : w.heap.size < w1.heap.size := (by omega)); (try have y1_w_0 : w.heap.size ≤ w1.heap.size := (by omega)); (try have z1_w_1 : w.heap.size + 1 < w1.heap.size := (by omega)); (try have y1_w_1 : w.heap.size + 1 ≤ w1.heap.size := (by omega))
      have k1_b0 : w1.cell? ⟨w.heap.size + 1, 0, none⟩ = some (.int .i64 b.re) := carry hb1 (by go_simp); (try have f1_b0 : w1.frozen? ⟨w.heap.size + 1, 0, none⟩ = false := carryf hb1 (v := .int .i64 b.re) (by go_simp) (by go_simp)); have k1_b1 : w1.cell? ⟨w.heap.size + 1, 1, none⟩ = some (.int .i64 b.im) := carry hb1 (by go_simp); (try have f1_b1 : w1.frozen? ⟨w.heap.size + 1, 1, none⟩ = false := carryf hb1 (v := .int .i64 b.im) (by go_simp) (by go_simp)); have k1_b2 : w1.cell? ⟨w.heap.size + 1, 2, none⟩ = some (.int .i64 b.den) := carry hb1 (by go_simp); (try have f1_b2 : w1.frozen? ⟨w.heap.size + 1, 2, none⟩ = false := carryf hb1 (v := .int .i64 b.den) (by go_simp) (by go_simp))
      rw [show Cx.chk ⟨a.re, a.im, a.den⟩ = 0 from HA.out]
      go_wp2_with fail
      refine (rcheck_any b.re b.im b.den _).mono ?_; rintro e2 w2 ⟨rfl, hb2⟩; obtain ⟨hc2, hf2⟩ := bcell hb2; have hs2 := hb2.size; (try simp at hs2); (try have z2_w_0 : w.heap.size < w2.heap.size := (by omega)); (try have y2_w_0 : w.heap.size ≤ w2.heap.size := (by omega)); (try have z2_w_1 : w.heap.size + 1 < w2.heap.size := (by omega)); (try have y2_w_1 : w.heap.size + 1 ≤ w2.heap.size := (by omega))
      rw [HB.out]
      go_wp2_with fail
      go_ret
      exact ⟨rfl, by repeat (first | exact Below.refl _ _ | (refine b_set ?_ (by omega) _) | (refine b_alloc ?_ _) | (refine b_drew ?_) | (refine b_drewN ?_ _) | (refine b_then ?_ (by assumption)))⟩

set_option maxHeartbeats 4000000 in
theorem rmade_any (re im den : Int) (hr : -2000000000000000000 ≤ re ∧ re ≤ 2000000000000000000) (hi : -2000000000000000000 ≤ im ∧ im ≤ 2000000000000000000) (hd : -2000000000000000000 ≤ den ∧ den ≤ 2000000000000000000) (hz : den ≠ 0) (w : World) :
    Calls Try.prog 30 #[.int .i64 re, .int .i64 im, .int .i64 den] w fun e w' => e = .returned (.tuple #[.agg #[.int .i64 ((Cx.red re im den).1).re, .int .i64 ((Cx.red re im den).1).im, .int .i64 ((Cx.red re im den).1).den], .int .i64 (Cx.red re im den).2]) ∧ Below w.heap.size w w' := by
  obtain ⟨G, s, hG, hG0, hG1, hs, q1, q2, q3, e1, e2, e3, c1, c2, c3, HR⟩ := red_facts 2000000000000000000 hr hi hd hz
  have g1 : (Int.gcd re im : Int) ≤ 2000000000000000000 := by
    have := gcd_le_abs re im; omega
  have g0 : 0 ≤ (Int.gcd re im : Int) := by omega
  have HG' : Hid ((Int.gcd (Int.gcd re im : Nat) den) = G) := Lib.hid hG
  clear hG
  generalize hgg : (Int.gcd re im : Nat) = g at *
  have HGG := Lib.hid hgg
  clear hgg
  obtain ⟨hr0, hr1⟩ := hr
  obtain ⟨hi0, hi1⟩ := hi
  obtain ⟨hd0, hd1⟩ := hd
  obtain ⟨R, HRR⟩ : ∃ R, Hid (Cx.red re im den = R) := ⟨_, Lib.hid rfl⟩
  rw [HRR.out] at HR ⊢
  have hzz : (den == 0) = false := by simpa using hz
  clear hz
  have hsn : ¬ s = 0 := by omega
  have hsz : (s == 0) = false := by simpa using hsn
  by_cases hneg : den < 0
  all_goals
    simp only [hneg, if_true, if_false] at hs
    subst hs
    cases hok : (Cx.mk q1 q2 q3).ok
    all_goals
      obtain ⟨C, HC, hCv⟩ : ∃ C : Int, Hid (Cx.chk ⟨q1, q2, q3⟩ = C) ∧ C = _ := ⟨_, Lib.hid rfl, by unfold Cx.chk; rw [hok]⟩
      rw [hok] at HR
      clear hok
      simp only [Bool.false_eq_true, if_false, if_true] at HR hCv
      subst HR hCv
      go_enter Try.func30, Try.ntmps30
      go_wp2_with fail
      refine (gcd2_any re im g HGG.out (by omega) (by omega) _).mono ?_; rintro e1 w1 ⟨rfl, hb1⟩; obtain ⟨hc1, hf1⟩ := bcell hb1; have hs1 := hb1.size; (try simp at hs1); (try have z1_w_0 : w.heap.size < w1.heap.size := (by omega)); (try have y1_w_0 : w.heap.size ≤ w1.heap.size := (by omega))
      have k1_0 : w1.cell? ⟨w.heap.size, 0, none⟩ = some (.int .i64 0) := carry hb1 (by go_simp); have k1_1 : w1.cell? ⟨w.heap.size, 1, none⟩ = some (.int .i64 0) := carry hb1 (by go_simp); have k1_2 : w1.cell? ⟨w.heap.size, 2, none⟩ = some (.int .i64 0) := carry hb1 (by go_simp)
      go_wp2_with fail
      refine (gcd2_any g den G HG'.out (by omega) (by omega) _).mono ?_; rintro e11 w11 ⟨rfl, hb11⟩; obtain ⟨hc11, hf11⟩ := bcell hb11; have hs11 := hb11.size; (try simp at hs11); (try have z11_w_0 : w.heap.size < w11.heap.size := (by omega)); (try have y11_w_0 : w.heap.size ≤ w11.heap.size := (by omega))
      have k11_0 : w11.cell? ⟨w.heap.size, 0, none⟩ = some (.int .i64 0) := carry hb11 (by go_simp); have k11_1 : w11.cell? ⟨w.heap.size, 1, none⟩ = some (.int .i64 0) := carry hb11 (by go_simp); have k11_2 : w11.cell? ⟨w.heap.size, 2, none⟩ = some (.int .i64 0) := carry hb11 (by go_simp)
      go_wp2_with fail
      go_region
      go_wp2_with fail
      refine (rcheck_any q1 q2 q3 _).mono ?_; rintro e2 w2 ⟨rfl, hb2⟩; obtain ⟨hc2, hf2⟩ := bcell hb2; have hs2 := hb2.size; (try simp at hs2); (try have z2_w_0 : w.heap.size < w2.heap.size := (by omega)); (try have y2_w_0 : w.heap.size ≤ w2.heap.size := (by omega)); (try have z2_w11_0 : w11.heap.size < w2.heap.size := (by omega)); (try have y2_w11_0 : w11.heap.size ≤ w2.heap.size := (by omega))
      have k2_0 : w2.cell? ⟨w.heap.size, 0, none⟩ = some (.int .i64 0) := carry hb2 (by go_simp); have k2_1 : w2.cell? ⟨w.heap.size, 1, none⟩ = some (.int .i64 0) := carry hb2 (by go_simp); have k2_2 : w2.cell? ⟨w.heap.size, 2, none⟩ = some (.int .i64 0) := carry hb2 (by go_simp)
      rw [HC.out]
      go_wp2_with fail
      first
      | exact bodyPost_ret (v := .tuple #[.agg #[.int .i64 q1, .int .i64 q2, .int .i64 q3], .int .i64 0]) (by simp only [results, Try.results30]; go_simp) rfl ⟨rfl, by repeat (first | exact Below.refl _ _ | (refine b_set ?_ (by omega) _) | (refine b_alloc ?_ _) | (refine b_drew ?_) | (refine b_drewN ?_ _) | (refine b_then ?_ (by assumption)))⟩
      | exact bodyPost_ret (v := .tuple #[.agg #[.int .i64 0, .int .i64 0, .int .i64 0], .int .i64 16]) (by simp only [results, Try.results30]; go_simp) rfl ⟨rfl, by repeat (first | exact Below.refl _ _ | (refine b_set ?_ (by omega) _) | (refine b_alloc ?_ _) | (refine b_drew ?_) | (refine b_drewN ?_ _) | (refine b_then ?_ (by assumption)))⟩

end Go.Proofs.Ytdjdjbopddkndaa.A
