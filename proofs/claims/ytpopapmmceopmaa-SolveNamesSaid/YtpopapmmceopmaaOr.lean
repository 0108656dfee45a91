/- cmp.Or over error codes: the first one that is not 0. -/
import Derived.Test.YtpopapmmceopmaaProg
import Derived.Below
import Derived.Deep.Draws
import Derived.OwnWalk
import Derived.Tactics
import Derived.WalkKit
import Derived.KernelRfl
import Derived.Deep.LoopGhost
import Derived.Deep.QuietTactic
import Derived.BigQuiet
import Derived.Deep.DeepCutAuto
import Derived.Deep.RegionHeld3
import Derived.StillTailTactics
import Derived.WalkLawsBesides
import Derived.Lib.Hide
import Derived.Outline
import Derived.BigRegion
import Derived.Test.YtpopapmmceopmaaMath
import Derived.Test.YtpopapmmceopmaaLib
namespace Go.Proofs.Ytpopapmmceopmaa.A
open Go.RowKit Go.BigFrame Go.Proofs.Ytpopapmmceopmaa.M
set_option linter.unusedVariables false
set_option linter.unusedSimpArgs false

set_option maxHeartbeats 400000 in
theorem or_row (l : List Int) (b c : Nat) (hl : l.length ≤ 1000) (w : World) (hc : ∀ i, i < l.length → w.cell? ⟨b, i, none⟩ = some (.int .i64 (l.getD i 0))) :
    Calls Try.prog 141 #[.slice (some ⟨b, 0, none⟩) l.length c] w fun e w' => e = .returned (.int .i64 (orl l)) ∧ w = w' := by
  have HC := Lib.hid hc
  clear hc
  go_enter Try.func141, Try.ntmps141
  go_wp2
  go_loopw [8] (fun v wr => ∃ (k : Nat), k ≤ l.length ∧ v = .int .i64 k ∧ Hid (orl (l.drop k) = orl l) ∧ w = wr) (fun v _ => l.length - (intOf v).toNat)
  case atStart => exact ⟨0, by omega, rfl, Lib.hid rfl, rfl⟩
  case round =>
    obtain ⟨k, hk, rfl, HG, rfl⟩ := hrel
    by_cases hlt : k < l.length
    · have hck := HC.out k hlt
      have HS : Hid (orl (l.drop k) = if l.getD k 0 = 0 then orl (l.drop (k + 1)) else l.getD k 0) := Lib.hid (orl_drop l k hlt)
      generalize l.getD k 0 = x at *
      by_cases hx : x = 0
      · subst hx
        go_wp2
        go_roundw
        case rel => exact ⟨k + 1, by omega, by go_num, Lib.hid (by rw [← HG.out, HS.out]; rfl), trivial⟩
        case measure => simp [intOf]; omega
      · have hxx : (x != 0) = true := by simpa using hx
        have HX := Lib.hid hx
        clear hx
        go_wp2
        go_ret
        exact ⟨ret_int (by rw [← HG.out, HS.out, if_neg HX.out]), rfl⟩
    · obtain rfl : k = l.length := by omega
      go_wp2
      go_ret
      exact ⟨ret_int (by rw [← HG.out]; simp [orl]), rfl⟩

theorem or2_any (x y : Int) (n k : Nat) (w : World) (h0 : w.cell? ⟨n, 0, none⟩ = some (.int .i64 x)) (h1 : w.cell? ⟨n, 1, none⟩ = some (.int .i64 y)) :
    Calls Try.prog 141 #[.slice (some ⟨n, 0, none⟩) 2 k] w fun e w' => e = .returned (.int .i64 (orl [x, y])) ∧ w = w' :=
  or_row [x, y] n k (by simp) w (two_at x y (fun i x => w.cell? ⟨n, i, none⟩ = some (.int .i64 x)) h0 h1)

end Go.Proofs.Ytpopapmmceopmaa.A
