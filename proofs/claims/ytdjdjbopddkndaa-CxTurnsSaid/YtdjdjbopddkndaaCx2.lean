/- Numbers in lowest terms: 'reduced' of layer 25 and 'made' of its reference. -/
import Derived.Test.YtdjdjbopddkndaaProg
import Derived.Below
import Derived.Deep.Draws
import Derived.OwnWalk
import Derived.Tactics
import Derived.WalkKit
import Derived.KernelRfl
import Derived.Deep.LoopGhost
import Derived.Deep.QuietTactic
import Derived.BigQuiet
import Derived.Deep.DeepCutAuto
import Derived.Deep.RegionHeld3
import Derived.StillTailTactics
import Derived.WalkLawsBesides
import Derived.Lib.Hide
import Derived.Outline
import Derived.BigRegion
import Derived.Test.YtdjdjbopddkndaaMath
import Derived.Test.YtdjdjbopddkndaaLib
import Derived.Test.YtdjdjbopddkndaaCx1
namespace Go.Proofs.Ytdjdjbopddkndaa.A
open Go.RowKit Go.BigFrame Go.Proofs.Ytdjdjbopddkndaa.M
set_option linter.unusedVariables false
set_option linter.unusedSimpArgs false

set_option maxHeartbeats 4000000 in
theorem reduced_any (re im den : Int) (hr : -2000000000000000000 ≤ re ∧ re ≤ 2000000000000000000) (hi : -2000000000000000000 ≤ im ∧ im ≤ 2000000000000000000) (hd : -2000000000000000000 ≤ den ∧ den ≤ 2000000000000000000) (hz : den ≠ 0) (w : World) :
    Calls Try.prog 28 #[.int .i64 re, .int .i64 im, .int .i64 den] w fun e w' => e = .returned (.tuple #[.agg #[.int .i64 ((Cx.red re im den).1).re, .int .i64 ((Cx.red re im den).1).im, .int .i64 ((Cx.red re im den).1).den], .int .i64 (Cx.red re im den).2]) ∧ Below w.heap.size w w' := by
  obtain ⟨G, s, hG, hG0, hG1, hs, q1, q2, q3, e1, e2, e3, c1, c2, c3, HR⟩ := red_facts 2000000000000000000 hr hi hd hz
  have HG := Lib.hid hG
  clear hG
  obtain ⟨hr0, hr1⟩ := hr
  obtain ⟨hi0, hi1⟩ := hi
  obtain ⟨hd0, hd1⟩ := hd
  obtain ⟨R, HRR⟩ : ∃ R, Hid (Cx.red re im den = R) := ⟨_, Lib.hid rfl⟩
  rw [HRR.out] at HR ⊢
  have hzz : (den == 0) = false := by simpa using hz
  clear hz
  have hsn : ¬ s = 0 := by omega
  have hsz : (s == 0) = false := by simpa using hsn
  by_cases hneg : den < 0
  all_goals
    simp only [hneg, if_true, if_false] at hs
    subst hs
    cases hok : (Cx.mk q1 q2 q3).ok
    all_goals
      obtain ⟨C, HC, hCv⟩ : ∃ C : Int, Hid (Cx.chk ⟨q1, q2, q3⟩ = C) ∧ C = _ := ⟨_, Lib.hid rfl, by unfold Cx.chk; rw [hok]⟩
      rw [hok] at HR
      clear hok
      simp only [Bool.false_eq_true, if_false, if_true] at HR hCv
      subst HR hCv
      go_enter Try.func28, Try.ntmps28
      go_wp2_with fail
      refine (gcd3_any re im den _ _ (by omega) (by omega) (by omega) _ (by simp) (by simp) (by simp)).mono ?_; rintro e1 w1 ⟨rfl, hb1⟩; obtain ⟨hc1, hf1⟩ := bcell hb1; have hs1 := hb1.size; (try simp at hs1); (try have z1_w_0 : w.heap.size < w1.heap.size := (by omega)); (try have y1_w_0 : w.heap.size ≤ w1.heap.size := (by omega)); (try have z1_w_1 : w.heap.size + 1 < w1.heap.size := (by omega)); (try have y1_w_1 : w.heap.size + 1 ≤ w1.heap.size := (by omega))
      have k1_0 : w1.cell? ⟨w.heap.size, 0, none⟩ = some (.int .i64 0) := carry hb1 (by go_simp); have k1_1 : w1.cell? ⟨w.heap.size, 1, none⟩ = some (.int .i64 0) := carry hb1 (by go_simp); have k1_2 : w1.cell? ⟨w.heap.size, 2, none⟩ = some (.int .i64 0) := carry hb1 (by go_simp)
      rw [HG.out]
      go_wp2_with fail
      go_region
      go_wp2_with fail
      refine (check_any q1 q2 q3 _).mono ?_; rintro e2 w2 ⟨rfl, hb2⟩; obtain ⟨hc2, hf2⟩ := bcell hb2; have hs2 := hb2.size; (try simp at hs2); (try have z2_w_0 : w.heap.size < w2.heap.size := (by omega)); (try have y2_w_0 : w.heap.size ≤ w2.heap.size := (by omega)); (try have z2_w1_0 : w1.heap.size < w2.heap.size := (by omega)); (try have y2_w1_0 : w1.heap.size ≤ w2.heap.size := (by omega))
      have k2_0 : w2.cell? ⟨w.heap.size, 0, none⟩ = some (.int .i64 0) := carry hb2 (by go_simp); have k2_1 : w2.cell? ⟨w.heap.size, 1, none⟩ = some (.int .i64 0) := carry hb2 (by go_simp); have k2_2 : w2.cell? ⟨w.heap.size, 2, none⟩ = some (.int .i64 0) := carry hb2 (by go_simp)
      rw [HC.out]
      go_wp2_with fail
      first
      | exact bodyPost_ret (v := .tuple #[.agg #[.int .i64 q1, .int .i64 q2, .int .i64 q3], .int .i64 0]) (by simp only [results, Try.results28]; go_simp) rfl ⟨rfl, by repeat (first | exact Below.refl _ _ | (refine b_set ?_ (by omega) _) | (refine b_alloc ?_ _) | (refine b_drew ?_) | (refine b_drewN ?_ _) | (refine b_then ?_ (by assumption)))⟩
      | exact bodyPost_ret (v := .tuple #[.agg #[.int .i64 0, .int .i64 0, .int .i64 0], .int .i64 16]) (by simp only [results, Try.results28]; go_simp) rfl ⟨rfl, by repeat (first | exact Below.refl _ _ | (refine b_set ?_ (by omega) _) | (refine b_alloc ?_ _) | (refine b_drew ?_) | (refine b_drewN ?_ _) | (refine b_then ?_ (by assumption)))⟩

end Go.Proofs.Ytdjdjbopddkndaa.A
