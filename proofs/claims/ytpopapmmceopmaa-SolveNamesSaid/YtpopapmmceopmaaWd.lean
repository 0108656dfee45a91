/- Sums and differences of 128 bits; the functions that RX meets by contract. -/
import Derived.Test.YtpopapmmceopmaaProg
import Derived.Below
import Derived.Deep.Draws
import Derived.OwnWalk
import Derived.Tactics
import Derived.WalkKit
import Derived.KernelRfl
import Derived.Deep.LoopGhost
import Derived.Deep.QuietTactic
import Derived.BigQuiet
import Derived.Deep.DeepCutAuto
import Derived.Deep.RegionHeld3
import Derived.StillTailTactics
import Derived.WalkLawsBesides
import Derived.Lib.Hide
import Derived.Outline
import Derived.BigRegion
import Derived.Shelf.Spec.BitsCarry
import Derived.Test.YtpopapmmceopmaaMath
import Derived.Test.YtpopapmmceopmaaLib
import Derived.Test.YtpopapmmceopmaaOr
import Derived.Test.YtpopapmmceopmaaFrM2
import Derived.Test.YtpopapmmceopmaaRX
namespace Go.Proofs.Ytpopapmmceopmaa.A
open Go.RowKit Go.BigFrame Go.Proofs.Ytpopapmmceopmaa.M
set_option linter.unusedVariables false
set_option linter.unusedSimpArgs false
open Go.Proofs
theorem add64_run (x y : Int) (hx : 0 ≤ x) (hy : 0 ≤ y) (w : World) :
    (callFunc 143 #[.int .u64 x, .int .u64 y, .int .u64 0]).run Try.prog w = .ok (.value (.tuple #[.int .u64 (wlo (x + y)), .int .u64 (whi (x + y))])) w := by
  rw [run_callFunc_extern Try.func143 (by kernel_rfl) (by kernel_rfl) (by kernel_rfl) (e := add64Entry) (by kernel_rfl), run_add64 x y 0 hx hy (by omega) (by omega)]
  simp only [Result.andThen, Int.add_zero]
  rfl

set_option maxHeartbeats 1000000 in
theorem wadd_any (U V : Int) (hU0 : 0 ≤ U) (hV0 : 0 ≤ V) (hUV : U + V ≤ 340282366920938463463374607431768211455) (w : World) :
    Calls Try.prog 108 #[.agg #[.int .u64 (whi U), .int .u64 (wlo U)], .agg #[.int .u64 (whi V), .int .u64 (wlo V)]] w fun e w' => e = .returned (.agg #[.int .u64 (whi (U + V)), .int .u64 (wlo (U + V))]) ∧ Below w.heap.size w w' := by
  have bU := wlo_bd U
  have bV := wlo_bd V
  have hA := fun w => add64_run (wlo U) (wlo V) bU.1 bV.1 w
  obtain ⟨e1, e2⟩ := w_add U V
  have c1 := whi_sum U V
  have c2 := whi_bd (V := U) (by omega) (by omega)
  have c3 := whi_bd (V := V) (by omega) (by omega)
  have c4 := whi_bd (V := U + V) (by omega) (by omega)
  have c5 : whi U + whi V ≤ 18446744073709551615 := by omega
  clear hUV hU0 hV0
  generalize whi (U + V) = R1 at *
  generalize wlo (U + V) = R2 at *
  go_enter Try.func108, Try.ntmps108
  go_wp2_with fail
  exact bodyPost_ret (v := .agg #[.int .u64 R1, .int .u64 R2]) (by simp only [results, Try.results108]; go_simp) rfl ⟨rfl, by repeat (first | exact Below.refl _ _ | (exact Hid.out (by assumption)) | (refine b_set ?_ (by omega) _) | (refine b_alloc ?_ _) | (refine b_drew ?_) | (refine b_drewN ?_ _) | (refine b_then ?_ (by assumption)))⟩

theorem sub64_run (x y : Int) (hx : 0 ≤ x) (hx1 : x ≤ 18446744073709551615) (hy : 0 ≤ y) (hy1 : y ≤ 18446744073709551615) (w : World) :
    (callFunc 145 #[.int .u64 x, .int .u64 y, .int .u64 0]).run Try.prog w = .ok (.value (.tuple #[.int .u64 (wlo (x - y)), .int .u64 (wow x y)])) w := by
  obtain ⟨X, rfl⟩ := Int.eq_ofNat_of_zero_le hx
  obtain ⟨Y, rfl⟩ := Int.eq_ofNat_of_zero_le hy
  rw [run_callFunc_extern Try.func145 (by kernel_rfl) (by kernel_rfl) (by kernel_rfl) (e := sub64Entry) (by kernel_rfl), show (Value.int .u64 0) = Value.int .u64 ((0 : Nat) : Int) from rfl, run_sub64 X Y 0 (by omega)]
  simp only [Result.andThen]
  have h1 : (((X + 18446744073709551616 - Y - 0) % 18446744073709551616 : Nat) : Int) = wlo ((X : Int) - Y) := by simp only [wlo]; omega
  have h2 : ((if X < Y + 0 then 1 else 0 : Nat) : Int) = wow (X : Int) Y := by simp only [wow]; split <;> split <;> first | rfl | omega
  rw [h1, h2]

set_option maxHeartbeats 1000000 in
theorem wsub_any (U V : Int) (hV0 : 0 ≤ V) (hUV : V ≤ U) (hU : U ≤ 340282366920938463463374607431768211455) (w : World) :
    Calls Try.prog 110 #[.agg #[.int .u64 (whi U), .int .u64 (wlo U)], .agg #[.int .u64 (whi V), .int .u64 (wlo V)]] w fun e w' => e = .returned (.agg #[.int .u64 (whi (U - V)), .int .u64 (wlo (U - V))]) ∧ Below w.heap.size w w' := by
  have bU := wlo_bd U
  have bV := wlo_bd V
  have hA := fun w => sub64_run (wlo U) (wlo V) bU.1 bU.2 bV.1 bV.2 w
  obtain ⟨e1, e2⟩ := w_sub U V
  have c1 := wow_bd (wlo U) (wlo V)
  have c2 := whi_bd (V := U) (by omega) (by omega)
  have c3 := whi_bd (V := V) (by omega) (by omega)
  have c4 := whi_bd (V := U - V) (by omega) (by omega)
  have c5 := w_le hUV
  have c6 := w_le' hUV
  clear hUV hU hV0
  generalize whi (U - V) = R1 at *
  generalize wlo (U - V) = R2 at *
  go_enter Try.func110, Try.ntmps110
  go_wp2_with fail
  exact bodyPost_ret (v := .agg #[.int .u64 R1, .int .u64 R2]) (by simp only [results, Try.results110]; go_simp) rfl ⟨rfl, by repeat (first | exact Below.refl _ _ | (exact Hid.out (by assumption)) | (refine b_set ?_ (by omega) _) | (refine b_alloc ?_ _) | (refine b_drew ?_) | (refine b_drewN ?_ _) | (refine b_then ?_ (by assumption)))⟩

open Go.Proofs.Ytpopapmmceopmaa.X in
/-- The halves of a sum. -/
def gAdd : List SV → Option SV
  | [.agg [.lit .u64 a, .lit .u64 b], .agg [.lit .u64 c, .lit .u64 d]] =>
    if 0 ≤ a ∧ 0 ≤ b ∧ b ≤ 18446744073709551615 ∧ 0 ≤ c ∧ 0 ≤ d ∧ d ≤ 18446744073709551615 ∧ a * 18446744073709551616 + b + (c * 18446744073709551616 + d) ≤ 340282366920938463463374607431768211455 then
      some (.agg [.lit .u64 (whi (a * 18446744073709551616 + b + (c * 18446744073709551616 + d))), .lit .u64 (wlo (a * 18446744073709551616 + b + (c * 18446744073709551616 + d)))])
    else none
  | _ => none
open Go.Proofs.Ytpopapmmceopmaa.X in
/-- The halves of a difference. -/
def gSub : List SV → Option SV
  | [.agg [.lit .u64 a, .lit .u64 b], .agg [.lit .u64 c, .lit .u64 d]] =>
    if 0 ≤ a ∧ 0 ≤ b ∧ b ≤ 18446744073709551615 ∧ 0 ≤ c ∧ 0 ≤ d ∧ d ≤ 18446744073709551615 ∧ a * 18446744073709551616 + b ≤ 340282366920938463463374607431768211455 ∧ c * 18446744073709551616 + d ≤ a * 18446744073709551616 + b then
      some (.agg [.lit .u64 (whi (a * 18446744073709551616 + b - (c * 18446744073709551616 + d))), .lit .u64 (wlo (a * 18446744073709551616 + b - (c * 18446744073709551616 + d)))])
    else none
  | _ => none
theorem whi_of {a b : Int} (h0 : 0 ≤ b) (h1 : b ≤ 18446744073709551615) : whi (a * 18446744073709551616 + b) = a := by simp only [whi]; omega
theorem wlo_of {a b : Int} (h0 : 0 ≤ b) (h1 : b ≤ 18446744073709551615) : wlo (a * 18446744073709551616 + b) = b := by simp only [wlo]; omega
open Go.Proofs.Ytpopapmmceopmaa.X in
noncomputable def gvW : GV := fun f => sel (f == 108) (fun _ => some gAdd) (fun _ => sel (f == 110) (fun _ => some gSub) (fun _ => none))
open Go.Proofs.Ytpopapmmceopmaa.X in
theorem gvW_ok : GVok Try.prog gvW := by
  intro f F l x hF hx
  simp only [gvW, sel_eq, cond_eq_ite] at hF
  split at hF
  · rename_i hf
    obtain rfl : f = 108 := by simpa using hf
    cases hF
    refine ⟨⟨_, Try.func108, by kernel_rfl, by kernel_rfl⟩, ?_⟩
    unfold gAdd at hx
    split at hx
    · rename_i a b c d
      split at hx
      · rename_i h
        obtain ⟨h1, h2, h3, h4, h5, h6, h7⟩ := h
        cases hx
        refine ⟨_, _, fun β => rfl, fun β => rfl, fun w => ?_⟩
        have := wadd_any (a * 18446744073709551616 + b) (c * 18446744073709551616 + d) (by omega) (by omega) h7 w
        rw [whi_of h2 h3, wlo_of h2 h3, whi_of h5 h6, wlo_of h5 h6] at this
        exact this
      · cases hx
    · cases hx
  · split at hF
    · rename_i hf
      obtain rfl : f = 110 := by simpa using hf
      cases hF
      refine ⟨⟨_, Try.func110, by kernel_rfl, by kernel_rfl⟩, ?_⟩
      unfold gSub at hx
      split at hx
      · rename_i a b c d
        split at hx
        · rename_i h
          obtain ⟨h1, h2, h3, h4, h5, h6, h7, h8⟩ := h
          cases hx
          refine ⟨_, _, fun β => rfl, fun β => rfl, fun w => ?_⟩
          have := wsub_any (a * 18446744073709551616 + b) (c * 18446744073709551616 + d) (by omega) h8 h7 w
          rw [whi_of h2 h3, wlo_of h2 h3, whi_of h5 h6, wlo_of h5 h6] at this
          exact this
        · cases hx
      · cases hx
    · cases hF
end Go.Proofs.Ytpopapmmceopmaa.A
