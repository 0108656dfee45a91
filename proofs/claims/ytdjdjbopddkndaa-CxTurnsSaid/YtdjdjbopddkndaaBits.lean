/- 'x & 3' and its kin. -/
import Derived.Test.YtdjdjbopddkndaaProg
import Derived.Below
import Derived.Deep.Draws
import Derived.OwnWalk
import Derived.Tactics
import Derived.WalkKit
import Derived.KernelRfl
import Derived.Deep.LoopGhost
import Derived.Deep.QuietTactic
import Derived.BigQuiet
import Derived.Deep.DeepCutAuto
import Derived.Deep.RegionHeld3
import Derived.StillTailTactics
import Derived.WalkLawsBesides
import Derived.Lib.Hide
import Derived.Outline
import Derived.BigRegion
import Derived.Test.YtdjdjbopddkndaaMath
import Derived.Test.YtdjdjbopddkndaaLib
namespace Go.Proofs.Ytdjdjbopddkndaa.A
open Go.RowKit Go.BigFrame Go.Proofs.Ytdjdjbopddkndaa.M
set_option linter.unusedVariables false
set_option linter.unusedSimpArgs false

theorem and3_i64 (q : Int) : bits BinOp.and IntKind.i64 q 3 = q % 4 := by
  unfold bits
  have h1 : (BitVec.ofInt IntKind.i64.bits q &&& BitVec.ofInt IntKind.i64.bits 3).toNat = (q % 4).toNat := by
    rw [BitVec.toNat_and]
    have h2 : (BitVec.ofInt IntKind.i64.bits 3).toNat = 2 ^ 2 - 1 := by decide
    rw [h2, Nat.and_two_pow_sub_one_eq_mod, BitVec.toNat_ofInt]
    have h3 : ((2 ^ IntKind.i64.bits : Nat) : Int) = 18446744073709551616 := by decide
    rw [h3]
    omega
  simp only []
  rw [h1]
  have h4 : ((q % 4).toNat : Int) = q % 4 := by omega
  rw [h4]
  exact IntWalk.i64_in _ (by omega)

end Go.Proofs.Ytdjdjbopddkndaa.A
