/- More plain arithmetic of complex numbers. -/
import Derived.Test.YtdjdjbopddkndaaMath
namespace Go.Proofs.Ytdjdjbopddkndaa.M

def Cx.neg (a : Cx) : Cx := ⟨-a.re, -a.im, a.den⟩
theorem g3_neg1 (a b c : Int) : g3 (-a) b c = g3 a b c := by simp [g3]
theorem g3_neg2 (a b c : Int) : g3 a (-b) c = g3 a b c := by simp [g3]
theorem small_neg (n : Int) : small (-n) = small n := by rw [Bool.eq_iff_iff, small_iff, small_iff]; omega
theorem Cx.neg_ok (a : Cx) : a.neg.ok = a.ok := by
  rw [Bool.eq_iff_iff]
  show (Cx.mk (-a.re) (-a.im) a.den).ok = true ↔ (Cx.mk a.re a.im a.den).ok = true
  rw [Cx.ok_iff, Cx.ok_iff, g3_neg1, g3_neg2, small_neg, small_neg]
theorem Cx.add_neg (a b : Cx) : Cx.add a b.neg = Cx.sub a b := by
  unfold Cx.add Cx.sub
  rw [Cx.neg_ok]
  simp only [Cx.neg, Int.neg_mul, ← Int.sub_eq_add_neg]

def Cx.isZero (a : Cx) : Bool := a.re == 0 && a.im == 0

end Go.Proofs.Ytdjdjbopddkndaa.M
