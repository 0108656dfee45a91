/- The greatest common divisor of layer 25 and of its reference, and Check: what they answer. -/
import Derived.Test.YtdjdjbopddkndaaProg
import Derived.Below
import Derived.Deep.Draws
import Derived.OwnWalk
import Derived.Tactics
import Derived.WalkKit
import Derived.KernelRfl
import Derived.Deep.LoopGhost
import Derived.Deep.QuietTactic
import Derived.BigQuiet
import Derived.Deep.DeepCutAuto
import Derived.Deep.RegionHeld3
import Derived.StillTailTactics
import Derived.WalkLawsBesides
import Derived.Lib.Hide
import Derived.Outline
import Derived.BigRegion
import Derived.Test.YtdjdjbopddkndaaMath
import Derived.Test.YtdjdjbopddkndaaLib
namespace Go.Proofs.Ytdjdjbopddkndaa.A
open Go.RowKit Go.BigFrame Go.Proofs.Ytdjdjbopddkndaa.M
set_option linter.unusedVariables false
set_option linter.unusedSimpArgs false

set_option maxHeartbeats 400000 in
/-- the reference's divisor: it draws, no more -/
theorem gcd2_q (x y : Int) (g : Nat) (hg : Int.gcd x y = g) (hx : -4000000000000000000 ≤ x ∧ x ≤ 4000000000000000000) (hy : -4000000000000000000 ≤ y ∧ y ≤ 4000000000000000000) (w : World) :
    Calls Try.prog 35 #[.int .i64 x, .int .i64 y] w fun e w' => e = .returned (.int .i64 (g : Int)) ∧ ∃ m, w' = w.drewN m := by
  obtain ⟨hx0, hx1⟩ := hx
  obtain ⟨hy0, hy1⟩ := hy
  have HGG := Lib.hid hg
  clear hg
  go_enter Try.func35, Try.ntmps35
  go_wp2
  all_goals
    go_loopw [0, 1] (fun u v wr => ∃ (a b : Int), 0 ≤ a ∧ a ≤ 4000000000000000000 ∧ 0 ≤ b ∧ b ≤ 4000000000000000000 ∧ u = .int .i64 a ∧ v = .int .i64 b ∧ Hid (Int.gcd a b = Int.gcd x y) ∧ ∃ m, Hid (wr = w.drewN m)) (fun _ v _ => (intOf v).toNat)
    case atStart =>
      refine ⟨_, _, ?_, ?_, ?_, ?_, rfl, rfl, Lib.hid ?_, 0, Lib.hid rfl⟩ <;> first | omega | simp
    case round =>
      obtain ⟨a, b, ha0, ha1, hb0, hb1, rfl, rfl, HG, m, HW⟩ := hrel
      by_cases hb : b = 0
      · subst hb
        go_wp2
        go_ret
        exact ⟨ret_int (by have := HG.out; have := HGG.out; simp at *; omega), m, HW.out⟩
      · have hb' : 1 ≤ b := by omega
        have hbb : (b != 0) = true := by simpa using hb
        clear hb
        go_wp2
        go_quiet (fail)
        go_wp2
        go_roundw
        case rel =>
          have h0 := Int.emod_nonneg a (b := b) (by omega)
          have h1 := Int.emod_lt_of_pos a (b := b) (by omega)
          exact ⟨b, a % b, by omega, by omega, by omega, by omega, rfl, rfl, Lib.hid ((gcd_step a b).trans HG.out), _, Lib.hid (by rw [HW.out, World.drewN_drewN])⟩
        case measure =>
          have h0 := Int.emod_nonneg a (b := b) (by omega)
          have h1 := Int.emod_lt_of_pos a (b := b) (by omega)
          simp [intOf]; omega

theorem gcd2_any (x y : Int) (g : Nat) (hg : Int.gcd x y = g) (hx : -4000000000000000000 ≤ x ∧ x ≤ 4000000000000000000) (hy : -4000000000000000000 ≤ y ∧ y ≤ 4000000000000000000) (w : World) :
    Calls Try.prog 35 #[.int .i64 x, .int .i64 y] w fun e w' => e = .returned (.int .i64 (g : Int)) ∧ Below w.heap.size w w' :=
  (gcd2_q x y g hg hx hy w).mono fun _ _ ⟨he, m, hm⟩ => ⟨he, by rw [hm]; exact b_drewN (Below.refl _ _) m⟩

set_option maxHeartbeats 400000 in
theorem gcd_row (l : List Int) (b : Nat) (c : Nat) (hl : l.length ≤ 1000) (hb : ∀ x ∈ l, -4000000000000000000 ≤ x ∧ x ≤ 4000000000000000000) (w : World) (hc : ∀ i, i < l.length → w.cell? ⟨b, i, none⟩ = some (.int .i64 (l.getD i 0))) :
    Calls Try.prog 33 #[.slice (some ⟨b, 0, none⟩) l.length c] w fun e w' => e = .returned (.int .i64 (gl l : Nat)) ∧ Below w.heap.size w w' := by
  go_enter Try.func33, Try.ntmps33
  go_wp2
  go_loopw [3, 8] (fun u v wr => ∃ (g : Int) (k : Nat), k ≤ l.length ∧ -4000000000000000000 ≤ g ∧ g ≤ 4000000000000000000 ∧ u = .int .i64 g ∧ v = .int .i64 k ∧ Hid (g.natAbs = gl (l.take k)) ∧ Below w.heap.size w wr) (fun _ v _ => l.length - (intOf v).toNat)
  case atStart =>
    exact ⟨0, 0, by omega, by omega, by omega, rfl, rfl, Lib.hid rfl, Below.refl _ _⟩
  case round =>
    obtain ⟨g, k, hk, hg0, hg1, rfl, rfl, HG, HW⟩ := hrel
    by_cases hlt : k < l.length
    · have hck := hc k hlt
      have hbw := (HW.cell (p := ⟨b, k, none⟩) (World.block_lt_of_cell? w _ hck)).trans hck
      have hx := hb (l.getD k 0) (by rw [← List.getElem_eq_getD (h := hlt)]; exact List.getElem_mem hlt)
      have hts := take_snoc l k hlt
      have HS : Hid (gl (l.take (k + 1)) = Int.gcd (gl (l.take k)) (l.getD k 0)) := Lib.hid (by rw [hts, gl_snoc])
      clear hts hck
      generalize l.getD k 0 = x at *
      obtain ⟨hx0, hx1⟩ := hx
      obtain ⟨wo, HWO⟩ : ∃ wo : World, Hid (wo = wr) := ⟨_, Lib.hid rfl⟩
      go_wp2
      go_loopw [3, 5] (fun u v wr' => ∃ (a b : Int), -4000000000000000000 ≤ a ∧ a ≤ 4000000000000000000 ∧ -4000000000000000000 ≤ b ∧ b ≤ 4000000000000000000 ∧ u = .int .i64 a ∧ v = .int .i64 b ∧ Hid (Int.gcd a b = Int.gcd g x) ∧ Below w.heap.size w wr') (fun _ v _ => (intOf v).natAbs)
      case atStart => exact ⟨g, x, hg0, hg1, hx0, hx1, rfl, rfl, Lib.hid rfl, HW⟩
      case round =>
        clear hbw HW
        obtain ⟨a, b, ha0, ha1, hb0, hb1, rfl, rfl, HG', HW'⟩ := hrel
        by_cases hb : b = 0
        · subst hb
          go_wp2
          go_roundw
          case rel => exact ⟨a, k + 1, by omega, ha0, ha1, rfl, by go_num, Lib.hid (by rw [HS.out, ← HG.out]; have := HG'.out; simp at this; rw [this]; simp [Int.gcd_eq_natAbs_gcd_natAbs]), HW'⟩
          case measure => simp [intOf]; omega
        · have hbb : (b != 0) = true := by simpa using hb
          have hbz : (b == 0) = false := by simpa using hb
          have hm := tmod_bd a hb
          have hm0 : -4000000000000000000 ≤ a.tmod b := by omega
          have hm1 : a.tmod b ≤ 4000000000000000000 := by omega
          have HM := Lib.hid hm
          clear hm
          go_wp2
          go_quiet (fail)
          go_wp2
          go_roundw
          case rel => exact ⟨b, a.tmod b, hb0, hb1, hm0, hm1, rfl, rfl, Lib.hid ((gcd_tmod a b).trans HG'.out), b_drewN HW' _⟩
          case measure => exact HM.out
    · obtain rfl : k = l.length := by omega
      go_wp2
      all_goals
        go_ret
        exact ⟨ret_int (by have := HG.out; simp at this; omega), HW⟩

theorem gcd3_any (a b c : Int) (n k : Nat) (ha : -4000000000000000000 ≤ a ∧ a ≤ 4000000000000000000) (hb : -4000000000000000000 ≤ b ∧ b ≤ 4000000000000000000) (hc : -4000000000000000000 ≤ c ∧ c ≤ 4000000000000000000) (w : World)
    (h0 : w.cell? ⟨n, 0, none⟩ = some (.int .i64 a)) (h1 : w.cell? ⟨n, 1, none⟩ = some (.int .i64 b)) (h2 : w.cell? ⟨n, 2, none⟩ = some (.int .i64 c)) :
    Calls Try.prog 33 #[.slice (some ⟨n, 0, none⟩) 3 k] w fun e w' => e = .returned (.int .i64 (g3 a b c : Nat)) ∧ Below w.heap.size w w' := by
  rw [← gl_three]
  exact gcd_row [a, b, c] n k (by simp) (by simp only [List.mem_cons, List.not_mem_nil, or_false]; rintro x (rfl | rfl | rfl) <;> assumption) w (three_at a b c (fun i x => w.cell? ⟨n, i, none⟩ = some (.int .i64 x)) h0 h1 h2)

theorem gcd2r_any (a b : Int) (n k : Nat) (ha : -4000000000000000000 ≤ a ∧ a ≤ 4000000000000000000) (hb : -4000000000000000000 ≤ b ∧ b ≤ 4000000000000000000) (w : World)
    (h0 : w.cell? ⟨n, 0, none⟩ = some (.int .i64 a)) (h1 : w.cell? ⟨n, 1, none⟩ = some (.int .i64 b)) :
    Calls Try.prog 33 #[.slice (some ⟨n, 0, none⟩) 2 k] w fun e w' => e = .returned (.int .i64 (Int.gcd a b : Nat)) ∧ Below w.heap.size w w' := by
  rw [← gl_two]
  exact gcd_row [a, b] n k (by simp) (by simp only [List.mem_cons, List.not_mem_nil, or_false]; rintro x (rfl | rfl) <;> assumption) w (two_at a b (fun i x => w.cell? ⟨n, i, none⟩ = some (.int .i64 x)) h0 h1)

set_option maxHeartbeats 400000 in
theorem small_any (n : Int) (w : World) :
    Calls Try.prog 36 #[.int .i64 n] w fun e w' => e = .returned (.bool (small n)) ∧ w = w' := by
  go_enter Try.func36, Try.ntmps36
  go_wp2
  all_goals
    go_ret
    exact ⟨ret_bool (by unfold small; rw [Bool.eq_iff_iff]; simp; try omega), rfl⟩

set_option maxHeartbeats 4000000 in
theorem check_any (a b c : Int) (w : World) :
    Calls Try.prog 13 #[.agg #[.int .i64 a, .int .i64 b, .int .i64 c]] w fun e w' => e = .returned (.int .i64 (Cx.chk ⟨a, b, c⟩)) ∧ Below w.heap.size w w' := by
  unfold Cx.chk
  by_cases h1 : 1 ≤ c ∧ small a = true ∧ small b = true ∧ small c = true
  · obtain ⟨h1, ha, hb, hc⟩ := h1
    have ba := small_iff.1 ha
    have bb := small_iff.1 hb
    have bc := small_iff.1 hc
    have hok : (Cx.mk a b c).ok = decide (g3 a b c = 1) := by rw [Bool.eq_iff_iff, Cx.ok_iff]; simp [ha, hb, hc, h1]
    rw [hok]
    clear hok
    by_cases hg : g3 a b c = 1
    all_goals
      obtain ⟨g, Hg⟩ : ∃ g : Int, Hid ((g3 a b c : Int) = g) := ⟨_, Lib.hid rfl⟩
      have hgb : (g != 1) = !decide (g3 a b c = 1) := by
        rw [← Hg.out, Bool.eq_iff_iff]; simp; omega
      simp only [hg, decide_true, decide_false, Bool.not_true, Bool.not_false] at hgb ⊢
      clear hg
      go_enter Try.func13, Try.ntmps13
      go_wp2_with (first | (go_at_call 36; refine (small_any _ _).mono ?_; rintro e' w' ⟨rfl, rfl⟩) | (go_at_call 33; refine (gcd3_any a b c _ _ (by omega) (by omega) (by omega) _ (by simp) (by simp) (by simp)).mono ?_; rintro e' w' ⟨rfl, hbl⟩; rw [Hg.out]))
      go_ret
      exact ⟨rfl, b_then (b_alloc (b_alloc (Below.refl _ _) _) _) hbl⟩
  · have hok : (Cx.mk a b c).ok = false := by
      rw [Bool.eq_false_iff, Ne, Cx.ok_iff]; intro h; exact h1 ⟨h.1, h.2.1, h.2.2.1, h.2.2.2.1⟩
    rw [hok]
    clear hok
    by_cases hc1 : c < 1
    · clear h1
      go_enter Try.func13, Try.ntmps13
      go_wp2_with fail
      go_ret
      exact ⟨rfl, b_alloc (Below.refl _ _) _⟩
    · cases ha : small a
      · clear h1
        go_enter Try.func13, Try.ntmps13
        go_wp2_with (go_at_call 36; refine (small_any _ _).mono ?_; rintro e' w' ⟨rfl, rfl⟩)
        go_ret
        exact ⟨rfl, b_alloc (Below.refl _ _) _⟩
      · cases hb : small b
        · clear h1
          go_enter Try.func13, Try.ntmps13
          go_wp2_with (go_at_call 36; refine (small_any _ _).mono ?_; rintro e' w' ⟨rfl, rfl⟩)
          go_ret
          exact ⟨rfl, b_alloc (Below.refl _ _) _⟩
        · have hc : small c = false := by
            cases hc : small c
            · rfl
            · exact absurd ⟨by omega, ha, hb, hc⟩ h1
          clear h1
          go_enter Try.func13, Try.ntmps13
          go_wp2_with (go_at_call 36; refine (small_any _ _).mono ?_; rintro e' w' ⟨rfl, rfl⟩)
          go_ret
          exact ⟨rfl, b_alloc (Below.refl _ _) _⟩

end Go.Proofs.Ytdjdjbopddkndaa.A
