/- Make, Turn and Order of the reference of layer 25. -/
import Derived.Test.YtdjdjbopddkndaaProg
import Derived.Below
import Derived.Deep.Draws
import Derived.OwnWalk
import Derived.Tactics
import Derived.WalkKit
import Derived.KernelRfl
import Derived.Deep.LoopGhost
import Derived.Deep.QuietTactic
import Derived.BigQuiet
import Derived.Deep.DeepCutAuto
import Derived.Deep.RegionHeld3
import Derived.StillTailTactics
import Derived.WalkLawsBesides
import Derived.Lib.Hide
import Derived.Outline
import Derived.BigRegion
import Derived.Test.YtdjdjbopddkndaaMath
import Derived.Test.YtdjdjbopddkndaaLib
import Derived.Test.YtdjdjbopddkndaaCx1
import Derived.Test.YtdjdjbopddkndaaCx4
import Derived.Test.YtdjdjbopddkndaaCx12
import Derived.Test.YtdjdjbopddkndaaCxM5
import Derived.Test.YtdjdjbopddkndaaBits
namespace Go.Proofs.Ytdjdjbopddkndaa.A
open Go.RowKit Go.BigFrame Go.Proofs.Ytdjdjbopddkndaa.M
set_option linter.unusedVariables false
set_option linter.unusedSimpArgs false

set_option maxHeartbeats 2000000 in
theorem quarter_any (a : Cx) (w : World) : Calls Try.prog 40 #[.agg #[.int .i64 (a).re, .int .i64 (a).im, .int .i64 (a).den]] w fun e w' => e = .returned (.int .i64 a.qtr) ∧ Below w.heap.size w w' := by
  obtain ⟨Q, HQ⟩ : ∃ Q, Hid (a.qtr = Q) := ⟨_, Lib.hid rfl⟩
  rw [HQ.out]
  go_enter Try.func40, Try.ntmps40
  go_wp2_with fail
  all_goals
    go_ret
    exact ⟨ret_int (by rw [← HQ.out]; unfold Cx.qtr; first | rfl | (split <;> first | rfl | omega | (split <;> first | rfl | omega | (split <;> first | rfl | omega)))), by repeat (first | exact Below.refl _ _ | (exact Hid.out (by assumption)) | (refine b_set ?_ (by omega) _) | (refine b_alloc ?_ _) | (refine b_drew ?_) | (refine b_drewN ?_ _) | (refine b_then ?_ (by assumption)))⟩

theorem rmade_zero (re im : Int) (w : World) :
    Calls Try.prog 30 #[.int .i64 re, .int .i64 im, .int .i64 0] w fun e w' => e = .returned (.tuple #[.agg #[.int .i64 0, .int .i64 0, .int .i64 0], .int .i64 18]) ∧ Below w.heap.size w w' := by
  go_enter Try.func30, Try.ntmps30
  go_wp2_with fail
  exact bodyPost_ret (v := .tuple #[.agg #[.int .i64 0, .int .i64 0, .int .i64 0], .int .i64 18]) (by simp only [results, Try.results30]; go_simp) rfl ⟨rfl, by repeat (first | exact Below.refl _ _ | (exact Hid.out (by assumption)) | (refine b_set ?_ (by omega) _) | (refine b_alloc ?_ _) | (refine b_drew ?_) | (refine b_drewN ?_ _) | (refine b_then ?_ (by assumption)))⟩

set_option maxHeartbeats 4000000 in
theorem rmake_any (re im den : Int) (w : World) :
    Calls Try.prog 16 #[.int .i64 re, .int .i64 im, .int .i64 den] w fun e w' => e = .returned (.tuple #[.agg #[.int .i64 ((Cx.make re im den).1).re, .int .i64 ((Cx.make re im den).1).im, .int .i64 ((Cx.make re im den).1).den], .int .i64 (Cx.make re im den).2]) ∧ Below w.heap.size w w' := by
  obtain ⟨R, HR⟩ : ∃ R, Hid (Cx.make re im den = R) := ⟨_, Lib.hid rfl⟩
  rw [HR.out]
  go_enter Try.func16, Try.ntmps16
  go_wp2_with fail
  go_loopw [15] (fun v wr => ∃ (k : Nat), k ≤ 3 ∧ v = .int .i64 k ∧ Hid ((1 ≤ k → far re = false) ∧ (2 ≤ k → far im = false) ∧ (3 ≤ k → far den = false)) ∧ wr = ((w.alloc (.cells #[.int .i64 0, .int .i64 0, .int .i64 0] 23)).alloc (.cells #[.int .i64 re, .int .i64 im, .int .i64 den] 2))) (fun v _ => 3 - (intOf v).toNat)
  case atStart => exact ⟨0, by omega, rfl, Lib.hid ⟨by omega, by omega, by omega⟩, rfl⟩
  case round =>
    obtain ⟨k, hk, rfl, HK, rfl⟩ := hrel
    have hk4 : k = 0 ∨ k = 1 ∨ k = 2 ∨ k = 3 := by omega
    clear hk
    rcases hk4 with rfl | rfl | rfl | rfl
    · cases hf : far re
      · have hx := far_false hf
        have HF := Lib.hid hf
        clear hf
        go_wp2_with fail
        go_roundw
        case rel => exact ⟨1, by omega, by simp, Lib.hid (by have := HK.out; have := HF.out; simp_all), trivial⟩
        case measure => simp [intOf]
      · have hx := far_iff.1 hf
        have hR := HR.out
        unfold Cx.make at hR
        rw [if_pos (by rw [hf]; simp)] at hR
        subst hR
        clear hf
        rcases hx with hx | hx
        all_goals
          go_wp2_with fail
          exact bodyPost_ret (v := .tuple #[.agg #[.int .i64 0, .int .i64 0, .int .i64 0], .int .i64 2]) (by simp only [results, Try.results16]; go_simp) rfl ⟨rfl, by repeat (first | exact Below.refl _ _ | (exact Hid.out (by assumption)) | (refine b_set ?_ (by omega) _) | (refine b_alloc ?_ _) | (refine b_drew ?_) | (refine b_drewN ?_ _) | (refine b_then ?_ (by assumption)))⟩
    · cases hf : far im
      · have hx := far_false hf
        have HF := Lib.hid hf
        clear hf
        go_wp2_with fail
        go_roundw
        case rel => exact ⟨2, by omega, by simp, Lib.hid (by have := HK.out; have := HF.out; simp_all), trivial⟩
        case measure => simp [intOf]
      · have hx := far_iff.1 hf
        have hR := HR.out
        unfold Cx.make at hR
        rw [if_pos (by rw [hf]; simp)] at hR
        subst hR
        clear hf
        rcases hx with hx | hx
        all_goals
          go_wp2_with fail
          exact bodyPost_ret (v := .tuple #[.agg #[.int .i64 0, .int .i64 0, .int .i64 0], .int .i64 2]) (by simp only [results, Try.results16]; go_simp) rfl ⟨rfl, by repeat (first | exact Below.refl _ _ | (exact Hid.out (by assumption)) | (refine b_set ?_ (by omega) _) | (refine b_alloc ?_ _) | (refine b_drew ?_) | (refine b_drewN ?_ _) | (refine b_then ?_ (by assumption)))⟩
    · cases hf : far den
      · have hx := far_false hf
        have HF := Lib.hid hf
        clear hf
        go_wp2_with fail
        go_roundw
        case rel => exact ⟨3, by omega, by simp, Lib.hid (by have := HK.out; have := HF.out; simp_all), trivial⟩
        case measure => simp [intOf]
      · have hx := far_iff.1 hf
        have hR := HR.out
        unfold Cx.make at hR
        rw [if_pos (by rw [hf]; simp)] at hR
        subst hR
        clear hf
        rcases hx with hx | hx
        all_goals
          go_wp2_with fail
          exact bodyPost_ret (v := .tuple #[.agg #[.int .i64 0, .int .i64 0, .int .i64 0], .int .i64 2]) (by simp only [results, Try.results16]; go_simp) rfl ⟨rfl, by repeat (first | exact Below.refl _ _ | (exact Hid.out (by assumption)) | (refine b_set ?_ (by omega) _) | (refine b_alloc ?_ _) | (refine b_drew ?_) | (refine b_drewN ?_ _) | (refine b_then ?_ (by assumption)))⟩
    · obtain ⟨f1, f2, f3⟩ := HK.out
      have f1' := f1 (by omega)
      have f2' := f2 (by omega)
      have f3' := f3 (by omega)
      have hR := HR.out
      unfold Cx.make at hR
      rw [f1', f2', f3'] at hR
      simp only [Bool.or_self, Bool.false_eq_true, if_false] at hR
      have b1 := far_false f1'
      have b2 := far_false f2'
      have b3 := far_false f3'
      clear f1 f2 f3 f1' f2' f3'
      by_cases hz : den = 0
      · rw [if_pos hz] at hR
        subst hR hz
        go_wp2_with fail
        refine (rmade_zero re im _).mono ?_; rintro e1 w1 ⟨rfl, hb1⟩; have k1_r0 : w1.cell? ⟨w.heap.size, 0, none⟩ = some (.int .i64 0) := carry hb1 (by go_simp); have f1_r0 : w1.frozen? ⟨w.heap.size, 0, none⟩ = false := carryf hb1 (v := .int .i64 0) (by go_simp) (by go_simp); have k1_r1 : w1.cell? ⟨w.heap.size, 1, none⟩ = some (.int .i64 0) := carry hb1 (by go_simp); have f1_r1 : w1.frozen? ⟨w.heap.size, 1, none⟩ = false := carryf hb1 (v := .int .i64 0) (by go_simp) (by go_simp); have k1_r2 : w1.cell? ⟨w.heap.size, 2, none⟩ = some (.int .i64 0) := carry hb1 (by go_simp); have f1_r2 : w1.frozen? ⟨w.heap.size, 2, none⟩ = false := carryf hb1 (v := .int .i64 0) (by go_simp) (by go_simp); have z1_r : w.heap.size < w1.heap.size := World.block_lt_of_cell? _ _ k1_r0; have y1_r : w.heap.size ≤ w1.heap.size := Nat.le_of_lt z1_r; have HB1 : Hid (Below w.heap.size w w1) := Lib.hid (by repeat (first | exact Below.refl _ _ | (exact Hid.out (by assumption)) | (refine b_set ?_ (by omega) _) | (refine b_alloc ?_ _) | (refine b_drew ?_) | (refine b_drewN ?_ _) | (refine b_then ?_ (by assumption)))); clear hb1
        go_wp2_with fail
        exact bodyPost_ret (v := .tuple #[.agg #[.int .i64 0, .int .i64 0, .int .i64 0], .int .i64 18]) (by simp only [results, Try.results16]; go_simp) rfl ⟨rfl, by repeat (first | exact Below.refl _ _ | (exact Hid.out (by assumption)) | (refine b_set ?_ (by omega) _) | (refine b_alloc ?_ _) | (refine b_drew ?_) | (refine b_drewN ?_ _) | (refine b_then ?_ (by assumption)))⟩
      · rw [if_neg hz] at hR
        have HRed := Lib.hid hR
        have HZ := Lib.hid hz
        clear hR hz
        go_wp2_with fail
        refine (rmade_any re im den b1 b2 b3 HZ.out _).mono ?_; rintro e1 w1 ⟨rfl, hb1⟩; have k1_r0 : w1.cell? ⟨w.heap.size, 0, none⟩ = some (.int .i64 0) := carry hb1 (by go_simp); have f1_r0 : w1.frozen? ⟨w.heap.size, 0, none⟩ = false := carryf hb1 (v := .int .i64 0) (by go_simp) (by go_simp); have k1_r1 : w1.cell? ⟨w.heap.size, 1, none⟩ = some (.int .i64 0) := carry hb1 (by go_simp); have f1_r1 : w1.frozen? ⟨w.heap.size, 1, none⟩ = false := carryf hb1 (v := .int .i64 0) (by go_simp) (by go_simp); have k1_r2 : w1.cell? ⟨w.heap.size, 2, none⟩ = some (.int .i64 0) := carry hb1 (by go_simp); have f1_r2 : w1.frozen? ⟨w.heap.size, 2, none⟩ = false := carryf hb1 (v := .int .i64 0) (by go_simp) (by go_simp); have z1_r : w.heap.size < w1.heap.size := World.block_lt_of_cell? _ _ k1_r0; have y1_r : w.heap.size ≤ w1.heap.size := Nat.le_of_lt z1_r; have HB1 : Hid (Below w.heap.size w w1) := Lib.hid (by repeat (first | exact Below.refl _ _ | (exact Hid.out (by assumption)) | (refine b_set ?_ (by omega) _) | (refine b_alloc ?_ _) | (refine b_drew ?_) | (refine b_drewN ?_ _) | (refine b_then ?_ (by assumption)))); clear hb1
        rw [HRed.out]
        go_wp2_with fail
        exact bodyPost_ret (v := .tuple #[.agg #[.int .i64 (R.1).re, .int .i64 (R.1).im, .int .i64 (R.1).den], .int .i64 R.2]) (by simp only [results, Try.results16]; go_simp) rfl ⟨rfl, by repeat (first | exact Below.refl _ _ | (exact Hid.out (by assumption)) | (refine b_set ?_ (by omega) _) | (refine b_alloc ?_ _) | (refine b_drew ?_) | (refine b_drewN ?_ _) | (refine b_then ?_ (by assumption)))⟩

end Go.Proofs.Ytdjdjbopddkndaa.A
