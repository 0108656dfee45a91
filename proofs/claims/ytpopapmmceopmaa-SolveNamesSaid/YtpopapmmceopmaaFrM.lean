/- Fractions in lowest terms: plain arithmetic over Lean's own rationals. No program in sight. -/
import Derived.Test.YtpopapmmceopmaaMath
namespace Go.Proofs.Ytpopapmmceopmaa.M

structure Fr where
  num : Int
  den : Int

/-- the greatest number of a fraction: 10^18 -/
def top : Int := 1000000000000000000

def Fr.zero : Fr := ⟨0, 0⟩
/-- P1.1: is it a fraction in lowest terms -/
def Fr.ok (a : Fr) : Bool := decide (1 ≤ a.den) && decide (a.den ≤ 1000000000000000000) && decide (a.num.natAbs ≤ 1000000000000000000) && decide (Int.gcd a.num a.den = 1)
def Fr.chk (a : Fr) : Int := if a.ok then 0 else 8
def Fr.both (a b : Fr) : Int := if a.ok && b.ok then 0 else 8
/-- its value -/
def Fr.rat (a : Fr) : Rat := mkRat a.num a.den.toNat
/-- a rational number as a fraction -/
def Fr.of (q : Rat) : Fr := ⟨q.num, q.den⟩
/-- is a rational number in range -/
def inr (q : Rat) : Bool := decide (q.num.natAbs ≤ 1000000000000000000) && decide (q.den ≤ 1000000000000000000)
/-- a rational number as a fraction, or the error 16 -/
def Fr.fin (q : Rat) : Fr × Int := if inr q then (Fr.of q, 0) else (Fr.zero, 16)

theorem Fr.ok_iff {a : Fr} : a.ok = true ↔ 1 ≤ a.den ∧ a.den ≤ 1000000000000000000 ∧ a.num.natAbs ≤ 1000000000000000000 ∧ Int.gcd a.num a.den = 1 := by
  simp only [Fr.ok, Bool.and_eq_true, decide_eq_true_eq]; omega
theorem inr_iff {q : Rat} : inr q = true ↔ q.num.natAbs ≤ 1000000000000000000 ∧ q.den ≤ 1000000000000000000 := by
  simp only [inr, Bool.and_eq_true, decide_eq_true_eq]

theorem mkRat_coprime (n : Int) (d : Nat) (hd : 0 < d) (h : n.natAbs.gcd d = 1) : (mkRat n d).num = n ∧ (mkRat n d).den = d := by
  have := Rat.mk_eq_mkRat n d (by omega) h
  rw [← this]
  exact ⟨rfl, rfl⟩

theorem Fr.rat_num {a : Fr} (h : a.ok = true) : a.rat.num = a.num ∧ (a.rat.den : Int) = a.den := by
  obtain ⟨h1, h2, h3, h4⟩ := Fr.ok_iff.1 h
  have h5 : a.num.natAbs.gcd a.den.toNat = 1 := by
    rw [Int.gcd_eq_natAbs_gcd_natAbs] at h4
    rw [show a.den.toNat = a.den.natAbs from by omega]; exact h4
  obtain ⟨k1, k2⟩ := mkRat_coprime a.num a.den.toNat (by omega) h5
  exact ⟨k1, by unfold Fr.rat; rw [k2]; omega⟩
theorem Fr.of_rat {a : Fr} (h : a.ok = true) : Fr.of a.rat = a := by
  obtain ⟨h1, h2⟩ := Fr.rat_num h
  cases a
  simp only [Fr.of, Fr.mk.injEq]
  exact ⟨h1, h2⟩
theorem Fr.ok_of {q : Rat} (h : inr q = true) : (Fr.of q).ok = true := by
  obtain ⟨h1, h2⟩ := inr_iff.1 h
  have := q.den_pos
  refine Fr.ok_iff.2 ⟨by simp only [Fr.of]; omega, by simp only [Fr.of]; omega, h1, ?_⟩
  have := q.reduced
  simp only [Fr.of, Int.gcd_eq_natAbs_gcd_natAbs, Int.natAbs_natCast]
  exact this
theorem Fr.rat_of (q : Rat) : (Fr.of q).rat = q := by
  simp only [Fr.of, Fr.rat, Int.toNat_natCast]
  exact Rat.mkRat_self q
theorem Fr.inr_rat {a : Fr} (h : a.ok = true) : inr a.rat = true := by
  obtain ⟨h1, h2⟩ := Fr.rat_num h
  obtain ⟨k1, k2, k3, k4⟩ := Fr.ok_iff.1 h
  rw [inr_iff, h1]; exact ⟨k3, by omega⟩
theorem Fr.fin_rat {a : Fr} (h : a.ok = true) : Fr.fin a.rat = (a, 0) := by
  unfold Fr.fin
  rw [if_pos (Fr.inr_rat h), Fr.of_rat h]
theorem Fr.rat_inj {a b : Fr} (ha : a.ok = true) (hb : b.ok = true) (h : a.rat = b.rat) : a = b := by
  rw [← Fr.of_rat ha, ← Fr.of_rat hb, h]

/-- a value known by coprime numbers -/
theorem fin_of {q : Rat} {n : Int} {d : Nat} (h1 : q.num = n) (h2 : q.den = d) :
    Fr.fin q = if n.natAbs ≤ 1000000000000000000 ∧ d ≤ 1000000000000000000 then (⟨n, d⟩, 0) else (Fr.zero, 16) := by
  unfold Fr.fin
  by_cases h : n.natAbs ≤ 1000000000000000000 ∧ d ≤ 1000000000000000000
  · rw [if_pos h, if_pos (inr_iff.2 (by rw [h1, h2]; exact h))]; simp [Fr.of, h1, h2]
  · rw [if_neg h, if_neg (fun k => h (by have := inr_iff.1 k; rw [h1, h2] at this; exact this))]

/-- P1.2, P1.3 -/
def Fr.add (a b : Fr) : Fr × Int := if a.ok && b.ok then Fr.fin (a.rat + b.rat) else (Fr.zero, 8)
def Fr.sub (a b : Fr) : Fr × Int := if a.ok && b.ok then Fr.fin (a.rat - b.rat) else (Fr.zero, 8)
def Fr.mul (a b : Fr) : Fr × Int := if a.ok && b.ok then Fr.fin (a.rat * b.rat) else (Fr.zero, 8)
def Fr.div (a b : Fr) : Fr × Int := if a.ok && b.ok then (if b.num = 0 then (Fr.zero, 18) else Fr.fin (a.rat / b.rat)) else (Fr.zero, 8)
def sgn (a b : Rat) : Int := if a < b then -1 else if a = b then 0 else 1
def Fr.cmp (a b : Fr) : Int × Int := if a.ok && b.ok then (sgn a.rat b.rat, 0) else (0, 8)
def Fr.make (n d : Int) : Fr × Int := if d = 0 then (Fr.zero, 18) else Fr.fin (Rat.divInt n d)
def Fr.floor (a : Fr) : Int × Int := if a.ok then (a.num / a.den, 0) else (0, 8)

/-- a sum, by the common divisor of the denominators and what the numerator has in common with it -/
theorem add_core (A B : Rat) : ∃ (g p' q' h : Nat) (t : Int), A.den.gcd B.den = g ∧ 0 < g ∧ A.den / g = p' ∧ B.den / g = q' ∧ p' * g = A.den ∧ q' * g = B.den ∧ A.num * q' + B.num * p' = t ∧ t.natAbs.gcd g = h ∧ 0 < h ∧ h ∣ B.den ∧ (h : Int) ∣ t ∧
    (A + B).num = t / h ∧ (A + B).den = p' * (B.den / h) := by
  have hA := A.den_pos
  have hB := B.den_pos
  have gp : 0 < A.den.gcd B.den := Nat.gcd_pos_of_pos_left _ hA
  have g1 := Nat.gcd_dvd_left A.den B.den
  have g2 := Nat.gcd_dvd_right A.den B.den
  have e1 := Nat.div_mul_cancel g1
  have e2 := Nat.div_mul_cancel g2
  generalize hg : A.den.gcd B.den = g at *
  have haux := Rat.add.aux A B hg.symm rfl rfl
  simp only at haux
  generalize hp : A.den / g = p' at *
  generalize hq : B.den / g = q' at *
  generalize ht : A.num * q' + B.num * p' = t at *
  have hpp : 0 < p' := by
    rcases Nat.eq_zero_or_pos p' with h | h
    · subst h; omega
    · exact h
  have hs : A + B = mkRat t (p' * B.den) := by
    rw [Rat.add_def', Rat.mkRat_eq_iff (Nat.mul_ne_zero (by omega) (by omega)) (Nat.mul_ne_zero (by omega) (by omega)), ← ht]
    conv => lhs; rw [← e2, ← e1]
    conv => rhs; rw [← e2, ← e1]
    simp only [Int.natCast_mul]
    grind
  have hh : (p' * B.den).gcd t.natAbs = t.natAbs.gcd g := by rw [Nat.gcd_comm]; exact haux.symm
  have hd : t.natAbs.gcd g ∣ B.den := Nat.dvd_trans (Nat.gcd_dvd_right _ _) g2
  refine ⟨g, p', q', t.natAbs.gcd g, t, rfl, gp, hp, hq, e1, e2, ht, rfl, Nat.gcd_pos_of_pos_right _ gp, hd, ?_, ?_, ?_⟩
  · rw [← Int.dvd_natAbs]; exact Int.natCast_dvd_natCast.2 (Nat.gcd_dvd_left _ _)
  · rw [hs, Rat.num_mkRat, if_neg (Nat.mul_ne_zero (by omega) (by omega)), hh]
  · rw [hs, Rat.den_mkRat, if_neg (Nat.mul_ne_zero (by omega) (by omega)), hh, Nat.mul_div_assoc _ hd]

/-- a product, the common divisors taken out crosswise -/
theorem mul_core (A B : Rat) : (A * B).num = (A.num / (A.num.natAbs.gcd B.den : Nat)) * (B.num / (B.num.natAbs.gcd A.den : Nat)) ∧ (A * B).den = (A.den / B.num.natAbs.gcd A.den) * (B.den / A.num.natAbs.gcd B.den) := by
  have h : A * B = Rat.mul A B := rfl
  have k1 : ((A.num.natAbs.gcd B.den : Nat) : Int) ∣ A.num := by rw [← Int.dvd_natAbs]; exact Int.natCast_dvd_natCast.2 (Nat.gcd_dvd_left _ _)
  have k2 : ((B.num.natAbs.gcd A.den : Nat) : Int) ∣ B.num := by rw [← Int.dvd_natAbs]; exact Int.natCast_dvd_natCast.2 (Nat.gcd_dvd_left _ _)
  rw [h]
  unfold Rat.mul
  exact ⟨rfl, rfl⟩

theorem Fr.chk_out {n d : Int} (h : d < 1 ∨ 1000000000000000000 < d ∨ 1000000000000000000 < (n.natAbs : Int)) : Fr.chk ⟨n, d⟩ = 8 := by
  unfold Fr.chk
  rw [if_neg]
  intro h'
  have := Fr.ok_iff.1 h'
  simp only at this; omega
theorem Fr.chk_in {n d : Int} (h : ¬ (d < 1 ∨ 1000000000000000000 < d ∨ 1000000000000000000 < (n.natAbs : Int))) : Fr.chk ⟨n, d⟩ = if Int.gcd n.natAbs d = 1 then 0 else 8 := by
  unfold Fr.chk
  have e : Int.gcd (n.natAbs : Int) d = Int.gcd n d := by simp [Int.gcd_eq_natAbs_gcd_natAbs]
  rw [e]
  have : (Fr.mk n d).ok = decide (Int.gcd n d = 1) := by
    rw [Bool.eq_iff_iff, Fr.ok_iff]; simp only [decide_eq_true_eq]; omega
  rw [this]
  by_cases hg : Int.gcd n d = 1 <;> simp [hg]

/-- both numbers are of 64 bits -/
def Fr.w64 (a : Fr) : Prop := -9223372036854775808 ≤ a.num ∧ a.num ≤ 9223372036854775807 ∧ -9223372036854775808 ≤ a.den ∧ a.den ≤ 9223372036854775807
theorem Fr.w64_of_ok {a : Fr} (h : a.ok = true) : a.w64 := by
  have := Fr.ok_iff.1 h; unfold Fr.w64; omega
theorem Fr.both_eq (a b : Fr) : orl [a.chk, b.chk] = Fr.both a b := by
  simp only [orl, Fr.chk, Fr.both]
  by_cases ha : a.ok = true <;> by_cases hb : b.ok = true <;> simp [ha, hb]
/-- a fraction of two numbers and a sign, or the error 16 -/
def madeS (m : Bool) (n d : Int) : Fr × Int := if n ≤ 1000000000000000000 ∧ d ≤ 1000000000000000000 then (⟨if m then -n else n, d⟩, 0) else (Fr.zero, 16)
theorem fin_made {q : Rat} {m : Bool} {n : Int} {d : Nat} (h0 : 0 ≤ n) (h1 : q.num = if m then -n else n) (h2 : q.den = d) : Fr.fin q = madeS m n d := by
  rw [fin_of h1 h2]
  unfold madeS
  have : (if m then -n else n).natAbs = n.natAbs := by split <;> simp
  rw [this]
  by_cases h : n ≤ 1000000000000000000 ∧ (d : Int) ≤ 1000000000000000000
  · rw [if_pos h, if_pos (by omega)]
  · rw [if_neg h, if_neg (by omega)]

end Go.Proofs.Ytpopapmmceopmaa.M
