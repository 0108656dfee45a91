/- Make, turns, norms, rays and their order: plain arithmetic. -/
import Derived.Test.YtdjdjbopddkndaaCxM3
import Derived.Test.YtdjdjbopddkndaaFrM
namespace Go.Proofs.Ytdjdjbopddkndaa.M

/-- beyond 2 * 10^18 -/
def far (n : Int) : Bool := decide (n < -2000000000000000000) || decide (2000000000000000000 < n)
theorem far_iff {n : Int} : far n = true ↔ n < -2000000000000000000 ∨ 2000000000000000000 < n := by simp [far]
theorem far_false {n : Int} (h : far n = false) : -2000000000000000000 ≤ n ∧ n ≤ 2000000000000000000 := by
  simp only [far, Bool.or_eq_false_iff, decide_eq_false_iff_not] at h; omega
theorem far3 {a b c : Int} (h : (far a || far b || far c) = true) : (a < -2000000000000000000 ∨ 2000000000000000000 < a) ∨ (b < -2000000000000000000 ∨ 2000000000000000000 < b) ∨ (c < -2000000000000000000 ∨ 2000000000000000000 < c) := by
  simp only [Bool.or_eq_true, far_iff] at h; omega
theorem near3 {a b c : Int} (h : ¬ (far a || far b || far c) = true) : (-2000000000000000000 ≤ a ∧ a ≤ 2000000000000000000) ∧ (-2000000000000000000 ≤ b ∧ b ≤ 2000000000000000000) ∧ (-2000000000000000000 ≤ c ∧ c ≤ 2000000000000000000) := by
  simp only [Bool.or_eq_true, far_iff] at h; omega
/-- P25.1 -/
def Cx.make (re im den : Int) : Cx × Int := if far re || far im || far den then (Cx.zero, 2) else if den = 0 then (Cx.zero, 18) else Cx.red re im den
/-- P25.2 -/
def Cx.conj (a : Cx) : Cx × Int := if a.ok then (⟨a.re, -a.im, a.den⟩, 0) else (Cx.zero, 8)
def Cx.quarter (a : Cx) (k : Int) : Cx := if k = 0 then a else if k = 1 then ⟨-a.im, a.re, a.den⟩ else if k = 2 then ⟨-a.re, -a.im, a.den⟩ else ⟨a.im, -a.re, a.den⟩
def Cx.turn (a : Cx) (q : Int) : Cx × Int := if a.ok then (a.quarter (q % 4), 0) else (Cx.zero, 8)
/-- P25.3 -/
def Cx.norm (a : Cx) : Fr × Int :=
  if a.ok then
    let n := a.re * a.re + a.im * a.im
    let d := a.den * a.den
    let g : Int := Int.gcd n d
    if n / g ≤ 1000000000000000000 then (⟨n / g, d / g⟩, 0) else (Fr.zero, 16)
  else (Fr.zero, 8)
/-- P25.4 -/
def Cx.ray (a : Cx) : Cx × Int := if a.ok then (if a.isZero then (Cx.zero, 18) else (⟨a.re.tdiv (Int.gcd a.re a.im), a.im.tdiv (Int.gcd a.re a.im), 1⟩, 0)) else (Cx.zero, 8)
def Cx.upper (a : Cx) : Bool := decide (0 < a.im) || (a.im == 0 && decide (0 < a.re))
def cmpI (x y : Int) : Int := if x < y then -1 else if x = y then 0 else 1
def Cx.order (a b : Cx) : Int × Int :=
  if a.ok && b.ok then
    if a.isZero || b.isZero then (0, 18) else
      if a.upper != b.upper then (if a.upper then -1 else 1, 0) else (cmpI (a.im * b.re - a.re * b.im) 0, 0)
  else (0, 8)

theorem sq_nonneg (x : Int) : 0 ≤ x * x := by rw [← Int.natAbs_mul_self]; omega
theorem norm_facts (a : Cx) (h : 1 ≤ a.den ∧ a.den ≤ 1000000000 ∧ -1000000000 ≤ a.re ∧ a.re ≤ 1000000000 ∧ -1000000000 ≤ a.im ∧ a.im ≤ 1000000000) :
    ∃ (n d : Int) (g : Nat) (q dd : Int), a.re * a.re + a.im * a.im = n ∧ a.den * a.den = d ∧ Int.gcd n d = g ∧ n / (g : Int) = q ∧ d / (g : Int) = dd ∧
      (0 ≤ a.re * a.re ∧ a.re * a.re ≤ 1000000000000000000) ∧ (0 ≤ a.im * a.im ∧ a.im * a.im ≤ 1000000000000000000) ∧ (1 ≤ a.den * a.den ∧ a.den * a.den ≤ 1000000000000000000) ∧
      (0 ≤ n ∧ n ≤ 2000000000000000000) ∧ (1 ≤ d ∧ d ≤ 1000000000000000000) ∧ (1 ≤ (g : Int) ∧ (g : Int) ≤ 1000000000000000000) ∧ (0 ≤ q ∧ q ≤ 2000000000000000000) ∧ (0 ≤ dd ∧ dd ≤ 1000000000000000000) := by
  obtain ⟨u1, u2⟩ := mul_bd (x := a.re) (y := a.re) 1000000000 1000000000 (by omega) (by omega) (by omega) (by omega)
  obtain ⟨u3, u4⟩ := mul_bd (x := a.im) (y := a.im) 1000000000 1000000000 (by omega) (by omega) (by omega) (by omega)
  obtain ⟨u5, u6⟩ := mul_bd (x := a.den) (y := a.den) 1000000000 1000000000 (by omega) (by omega) (by omega) (by omega)
  have s1 := sq_nonneg a.re
  have s2 := sq_nonneg a.im
  have s3 : 0 < a.den * a.den := Int.mul_pos (by omega) (by omega)
  have gp := Int.gcd_pos_of_ne_zero_right (a.re * a.re + a.im * a.im) (b := a.den * a.den) (by omega)
  have hle := Int.le_of_dvd (by omega) (Int.gcd_dvd_right (a.re * a.re + a.im * a.im) (a.den * a.den))
  have k1 := Int.ediv_nonneg (a := a.re * a.re + a.im * a.im) (b := (Int.gcd (a.re * a.re + a.im * a.im) (a.den * a.den) : Nat)) (by omega) (by omega)
  have k2 := Int.ediv_le_self (a := a.re * a.re + a.im * a.im) (Int.gcd (a.re * a.re + a.im * a.im) (a.den * a.den) : Nat) (by omega)
  have k3 := Int.ediv_nonneg (a := a.den * a.den) (b := (Int.gcd (a.re * a.re + a.im * a.im) (a.den * a.den) : Nat)) (by omega) (by omega)
  have k4 := Int.ediv_le_self (a := a.den * a.den) (Int.gcd (a.re * a.re + a.im * a.im) (a.den * a.den) : Nat) (by omega)
  exact ⟨_, _, _, _, _, rfl, rfl, rfl, rfl, rfl, by omega, by omega, by omega, by omega, by omega, by omega, by omega, by omega⟩

theorem ray_facts (a : Cx) (h : 1 ≤ a.den ∧ a.den ≤ 1000000000 ∧ -1000000000 ≤ a.re ∧ a.re ≤ 1000000000 ∧ -1000000000 ≤ a.im ∧ a.im ≤ 1000000000) (hz : a.isZero = false) :
    ∃ (g : Nat) (q1 q2 : Int), Int.gcd a.re a.im = g ∧ a.re.tdiv (g : Int) = q1 ∧ a.im.tdiv (g : Int) = q2 ∧ (1 ≤ (g : Int) ∧ (g : Int) ≤ 2000000000) ∧ (-1000000000 ≤ q1 ∧ q1 ≤ 1000000000) ∧ (-1000000000 ≤ q2 ∧ q2 ≤ 1000000000) := by
  have hz' := isZero_false hz
  have gp : 0 < Int.gcd a.re a.im := by rw [Int.gcd_pos_iff]; omega
  have hle := (gcd_le_abs a.re a.im).1
  have k1 := tdiv_bd a.re (Int.gcd a.re a.im : Nat)
  have k2 := tdiv_bd a.im (Int.gcd a.re a.im : Nat)
  exact ⟨_, _, _, rfl, rfl, rfl, by omega, by omega, by omega⟩

end Go.Proofs.Ytdjdjbopddkndaa.M
