/- Plain arithmetic: products and their bounds, greatest common divisors, complex numbers with rational parts. No program in sight. -/
namespace Go.Proofs.Ytpopapmmceopmaa.M

theorem mul_bd {x y : Int} (A B : Int) (h0 : -A ≤ x) (h1 : x ≤ A) (h2 : -B ≤ y) (h3 : y ≤ B) : -(A * B) ≤ x * y ∧ x * y ≤ A * B := by
  have hA : 0 ≤ A := by omega
  have hB : 0 ≤ B := by omega
  have a1 : (x * y).natAbs = x.natAbs * y.natAbs := Int.natAbs_mul x y
  have a2 : x.natAbs * y.natAbs ≤ A.natAbs * B.natAbs := Nat.mul_le_mul (by omega) (by omega)
  have a3 : (A * B).natAbs = A.natAbs * B.natAbs := Int.natAbs_mul A B
  have a4 : 0 ≤ A * B := Int.mul_nonneg hA hB
  omega

theorem gcd_step (a b : Int) : Int.gcd b (a % b) = Int.gcd a b := by
  rw [Int.emod_def, Int.gcd_sub_mul_left_right, Int.gcd_comm]

theorem gcd_tmod (a b : Int) : Int.gcd b (a.tmod b) = Int.gcd a b := by
  rw [Int.tmod_def, Int.gcd_sub_mul_left_right, Int.gcd_comm]

theorem tmod_bd (a : Int) {b : Int} (h : b ≠ 0) : (a.tmod b).natAbs < b.natAbs := by
  have h1 : (a.tmod b).natAbs = a.natAbs % b.natAbs := Int.natAbs_tmod a b
  have h2 : a.natAbs % b.natAbs < b.natAbs := Nat.mod_lt _ (by omega)
  omega

theorem tdiv_bd (a b : Int) : (a.tdiv b).natAbs ≤ a.natAbs := by
  rw [Int.natAbs_tdiv]; exact Nat.div_le_self _ _

/-- the greatest common divisor of three numbers -/
def g3 (a b c : Int) : Nat := Int.gcd (Int.gcd a b) c

theorem g3_dvd1 (a b c : Int) : (g3 a b c : Int) ∣ a := Int.dvd_trans (Int.gcd_dvd_left _ _) (Int.gcd_dvd_left _ _)
theorem g3_dvd2 (a b c : Int) : (g3 a b c : Int) ∣ b := Int.dvd_trans (Int.gcd_dvd_left _ _) (Int.gcd_dvd_right _ _)
theorem g3_dvd3 (a b c : Int) : (g3 a b c : Int) ∣ c := Int.gcd_dvd_right _ _
theorem g3_pos {a b c : Int} (h : c ≠ 0) : 0 < g3 a b c := Int.gcd_pos_of_ne_zero_right _ h
theorem g3_pos1 {a b c : Int} (h : a ≠ 0 ∨ b ≠ 0 ∨ c ≠ 0) : 0 < g3 a b c := by
  unfold g3
  rw [Int.gcd_pos_iff]
  rcases h with h | h | h
  · left; have := Int.gcd_pos_of_ne_zero_left b h; omega
  · left; have := Int.gcd_pos_of_ne_zero_right a h; omega
  · right; exact h

/-- the greatest common divisor of a list -/
def gl (l : List Int) : Nat := l.foldl (fun g n => Int.gcd g n) 0
theorem gl_snoc (l : List Int) (n : Int) : gl (l ++ [n]) = Int.gcd (gl l) n := by simp [gl]
theorem gl_three (a b c : Int) : gl [a, b, c] = g3 a b c := by
  simp only [gl, g3, List.foldl]
  simp [Int.gcd_eq_natAbs_gcd_natAbs]
theorem gl_two (a b : Int) : gl [a, b] = Int.gcd a b := by
  simp only [gl, List.foldl]
  simp [Int.gcd_eq_natAbs_gcd_natAbs]
theorem take_snoc (l : List Int) (k : Nat) (h : k < l.length) : l.take (k + 1) = l.take k ++ [l.getD k 0] := by
  rw [List.take_succ_eq_append_getElem h]; simp [h]
theorem three_at (a b c : Int) (P : Nat → Int → Prop) (h0 : P 0 a) (h1 : P 1 b) (h2 : P 2 c) : ∀ i, i < [a, b, c].length → P i ([a, b, c].getD i 0) := by
  intro i hi
  rcases i with _ | _ | _ | i
  · exact h0
  · exact h1
  · exact h2
  · simp at hi; omega
theorem two_at (a b : Int) (P : Nat → Int → Prop) (h0 : P 0 a) (h1 : P 1 b) : ∀ i, i < [a, b].length → P i ([a, b].getD i 0) := by
  intro i hi
  rcases i with _ | _ | i
  · exact h0
  · exact h1
  · simp at hi; omega
theorem natAbs_max (g : Int) : (if g < -g then -g else g) = (g.natAbs : Int) := by split <;> omega

structure Cx where
  re : Int
  im : Int
  den : Int
deriving DecidableEq

/-- P25.1: is it a number -/
def Cx.ok (a : Cx) : Bool := decide (1 ≤ a.den) && decide (a.den ≤ 1000000000) && decide (-1000000000 ≤ a.re) && decide (a.re ≤ 1000000000) && decide (-1000000000 ≤ a.im) && decide (a.im ≤ 1000000000) && decide (g3 a.re a.im a.den = 1)

/-- at most 10^9 -/
def small (n : Int) : Bool := decide (-1000000000 ≤ n) && decide (n ≤ 1000000000)
theorem small_iff {n : Int} : small n = true ↔ -1000000000 ≤ n ∧ n ≤ 1000000000 := by simp [small]
theorem Cx.ok_of {a b c : Int} (h1 : 1 ≤ c) (ha : small a = true) (hb : small b = true) (hc : small c = true) (hg : g3 a b c = 1) : (Cx.mk a b c).ok = true := by
  have := small_iff.1 ha; have := small_iff.1 hb; have := small_iff.1 hc
  simp only [Cx.ok, Bool.and_eq_true, decide_eq_true_eq]; omega
theorem Cx.ok_iff {a b c : Int} : (Cx.mk a b c).ok = true ↔ 1 ≤ c ∧ small a = true ∧ small b = true ∧ small c = true ∧ g3 a b c = 1 := by
  simp only [Cx.ok, Bool.and_eq_true, decide_eq_true_eq, small]; omega

def Cx.zero : Cx := ⟨0, 0, 0⟩

/-- the number for (re + im i) / den, den not 0, or the error 16 -/
def Cx.red (re im den : Int) : Cx × Int :=
  let g : Int := if den < 0 then -(g3 re im den) else g3 re im den
  let a : Cx := ⟨re / g, im / g, den / g⟩
  if a.ok then (a, 0) else (Cx.zero, 16)

theorem tdiv_neg_g {a : Int} {g : Nat} (h : (g : Int) ∣ a) : a.tdiv (-(g : Int)) = a / (-(g : Int)) := Int.tdiv_eq_ediv_of_dvd (Int.neg_dvd.2 h)
theorem tdiv_g {a : Int} {g : Nat} (h : (g : Int) ∣ a) : a.tdiv (g : Int) = a / (g : Int) := Int.tdiv_eq_ediv_of_dvd h

theorem Cx.red_pos {re im den : Int} (h : ¬ den < 0) : Cx.red re im den = if (Cx.mk (re / g3 re im den) (im / g3 re im den) (den / g3 re im den)).ok then (⟨re / g3 re im den, im / g3 re im den, den / g3 re im den⟩, 0) else (Cx.zero, 16) := by
  simp only [Cx.red, if_neg h]
theorem Cx.red_neg {re im den : Int} (h : den < 0) : Cx.red re im den = if (Cx.mk (re / -(g3 re im den : Int)) (im / -(g3 re im den : Int)) (den / -(g3 re im den : Int))).ok then (⟨re / -(g3 re im den : Int), im / -(g3 re im den : Int), den / -(g3 re im den : Int)⟩, 0) else (Cx.zero, 16) := by
  simp only [Cx.red, if_pos h]

/-- the first number of a list that is not 0 -/
def orl : List Int → Int
  | [] => 0
  | x :: l => if x = 0 then orl l else x
theorem orl_drop (l : List Int) (k : Nat) (h : k < l.length) : orl (l.drop k) = if l.getD k 0 = 0 then orl (l.drop (k + 1)) else l.getD k 0 := by
  rw [List.drop_eq_getElem_cons h]
  simp [orl, h]

/-- what Check answers -/
def Cx.chk (a : Cx) : Int := if a.ok then 0 else 8
/-- what is the error of two numbers -/
def Cx.both (a b : Cx) : Int := if a.ok && b.ok then 0 else 8

theorem Cx.both_eq (a b : Cx) : orl [a.chk, b.chk] = Cx.both a b := by
  simp only [orl, Cx.chk, Cx.both]
  by_cases ha : a.ok = true <;> by_cases hb : b.ok = true <;> simp [ha, hb]

/-- the facts that a walk of 'reduced' wants of the divisor and of the three quotients -/
theorem red_facts {re im den : Int} (B : Int) (hr : -B ≤ re ∧ re ≤ B) (hi : -B ≤ im ∧ im ≤ B) (hd : -B ≤ den ∧ den ≤ B) (hz : den ≠ 0) :
    ∃ (g : Nat) (s : Int), g3 re im den = g ∧ 1 ≤ (g : Int) ∧ (g : Int) ≤ B ∧ (s = if den < 0 then -(g : Int) else (g : Int)) ∧
      ∃ q1 q2 q3, re.tdiv s = q1 ∧ im.tdiv s = q2 ∧ den.tdiv s = q3 ∧ (-B ≤ q1 ∧ q1 ≤ B) ∧ (-B ≤ q2 ∧ q2 ≤ B) ∧ (-B ≤ q3 ∧ q3 ≤ B) ∧
      Cx.red re im den = if (Cx.mk q1 q2 q3).ok then (⟨q1, q2, q3⟩, 0) else (Cx.zero, 16) := by
  have gp := g3_pos (a := re) (b := im) hz
  have gd1 := g3_dvd1 re im den
  have gd2 := g3_dvd2 re im den
  have gd3 := g3_dvd3 re im den
  have gle : g3 re im den ≤ den.natAbs := Nat.le_of_dvd (by omega) (Int.natCast_dvd_natCast.1 (by rw [Int.dvd_natAbs]; exact gd3))
  refine ⟨g3 re im den, _, rfl, by omega, by omega, rfl, _, _, _, rfl, rfl, rfl, ?_, ?_, ?_, ?_⟩
  · have := tdiv_bd re (if den < 0 then -(g3 re im den : Int) else (g3 re im den : Int)); omega
  · have := tdiv_bd im (if den < 0 then -(g3 re im den : Int) else (g3 re im den : Int)); omega
  · have := tdiv_bd den (if den < 0 then -(g3 re im den : Int) else (g3 re im den : Int)); omega
  · by_cases h : den < 0
    · rw [Cx.red_neg h, if_pos h, tdiv_neg_g gd1, tdiv_neg_g gd2, tdiv_neg_g gd3]
    · rw [Cx.red_pos h, if_neg h, tdiv_g gd1, tdiv_g gd2, tdiv_g gd3]

theorem gcd_le_abs (a b : Int) : Int.gcd a b ≤ a.natAbs + b.natAbs ∧ (a ≠ 0 → Int.gcd a b ≤ a.natAbs) ∧ (b ≠ 0 → Int.gcd a b ≤ b.natAbs) := by
  have h1 : a ≠ 0 → Int.gcd a b ≤ a.natAbs := fun h => Int.gcd_le_natAbs_left b h
  have h2 : b ≠ 0 → Int.gcd a b ≤ b.natAbs := fun h => Int.gcd_le_natAbs_right a h
  refine ⟨?_, h1, h2⟩
  by_cases ha : a = 0
  · subst ha; simp
  · have := h1 ha; omega
theorem Cx.chk_out {a b c : Int} (h : c < 1 ∨ 1000000000 < c ∨ a < -1000000000 ∨ 1000000000 < a ∨ b < -1000000000 ∨ 1000000000 < b) : Cx.chk ⟨a, b, c⟩ = 8 := by
  unfold Cx.chk
  rw [if_neg]
  intro h'
  simp only [Cx.ok, Bool.and_eq_true, decide_eq_true_eq] at h'; omega
theorem Cx.chk_in {a b c : Int} (h : ¬ (c < 1 ∨ 1000000000 < c ∨ a < -1000000000 ∨ 1000000000 < a ∨ b < -1000000000 ∨ 1000000000 < b)) : Cx.chk ⟨a, b, c⟩ = if g3 a b c = 1 then 0 else 8 := by
  unfold Cx.chk
  have : (Cx.mk a b c).ok = decide (g3 a b c = 1) := by
    rw [Bool.eq_iff_iff]
    simp only [Cx.ok, Bool.and_eq_true, decide_eq_true_eq]; omega
  rw [this]
  by_cases hg : g3 a b c = 1 <;> simp [hg]
theorem Cx.bounds {a : Cx} (h : a.ok = true) : 1 ≤ a.den ∧ a.den ≤ 1000000000 ∧ -1000000000 ≤ a.re ∧ a.re ≤ 1000000000 ∧ -1000000000 ≤ a.im ∧ a.im ≤ 1000000000 := by
  simp only [Cx.ok, Bool.and_eq_true, decide_eq_true_eq] at h; omega
/-- P25.2 -/
def Cx.add (a b : Cx) : Cx × Int := if a.ok && b.ok then Cx.red (a.re * b.den + b.re * a.den) (a.im * b.den + b.im * a.den) (a.den * b.den) else (Cx.zero, 8)
def Cx.sub (a b : Cx) : Cx × Int := if a.ok && b.ok then Cx.red (a.re * b.den - b.re * a.den) (a.im * b.den - b.im * a.den) (a.den * b.den) else (Cx.zero, 8)
def Cx.mul (a b : Cx) : Cx × Int := if a.ok && b.ok then Cx.red (a.re * b.re - a.im * b.im) (a.re * b.im + a.im * b.re) (a.den * b.den) else (Cx.zero, 8)

end Go.Proofs.Ytpopapmmceopmaa.M
