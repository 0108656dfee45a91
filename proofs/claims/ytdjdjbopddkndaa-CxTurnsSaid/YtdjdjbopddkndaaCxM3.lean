/- Quotients of complex numbers with rational parts: the steps by which common divisors are taken out, and what is left. -/
import Derived.Test.YtdjdjbopddkndaaCxM2
namespace Go.Proofs.Ytdjdjbopddkndaa.M

/-- a common divisor taken out of three numbers, the third one positive -/
theorem out3 (p q n : Int) (hn : 1 ≤ n) : ∃ (g : Nat) (p1 q1 n1 : Int), g3 p q n = g ∧ 1 ≤ (g : Int) ∧ (g : Int) ≤ n ∧ p.tdiv g = p1 ∧ q.tdiv g = q1 ∧ n / (g : Int) = n1 ∧
    p1.natAbs ≤ p.natAbs ∧ q1.natAbs ≤ q.natAbs ∧ 1 ≤ n1 ∧ n1 ≤ n ∧ g3 p1 q1 n1 = 1 ∧ p1 * g = p ∧ q1 * g = q ∧ n1 * g = n := by
  have gp := g3_pos (a := p) (b := q) (c := n) (by omega)
  have d1 := g3_dvd1 p q n
  have d2 := g3_dvd2 p q n
  have d3 := g3_dvd3 p q n
  have hle := Int.le_of_dvd (by omega) d3
  have e3 := Int.ediv_mul_cancel d3
  have e1 := Int.tdiv_mul_cancel d1
  have e2 := Int.tdiv_mul_cancel d2
  refine ⟨g3 p q n, _, _, _, rfl, by omega, hle, rfl, rfl, rfl, tdiv_bd _ _, tdiv_bd _ _, ?_, ?_, ?_, e1, e2, e3⟩
  · exact (Int.le_ediv_iff_mul_le (by omega)).2 (by omega)
  · exact Int.ediv_le_self _ (by omega)
  · have h1 : g3 (p.tdiv (g3 p q n) * g3 p q n) (q.tdiv (g3 p q n) * g3 p q n) (n / (g3 p q n) * g3 p q n) = g3 p q n := by rw [e1, e2, e3]
    have h2 : ∀ (x y z : Int) (g : Nat), g3 (x * g) (y * g) (z * g) = g3 x y z * g := by
      intro x y z g
      unfold g3
      rw [Int.gcd_mul_right]
      simp only [Int.natAbs_natCast]
      rw [show ((x.gcd y * g : Nat) : Int) = (x.gcd y : Int) * (g : Int) from Int.natCast_mul _ _, Int.gcd_mul_right]
      simp
    rw [h2] at h1
    exact Nat.eq_of_mul_eq_mul_right gp (by omega)

/-- a common divisor taken out of two positive numbers -/
theorem out2 (d e : Int) (hd : 1 ≤ d) (he : 1 ≤ e) : ∃ (g : Nat) (d1 e1 : Int), Int.gcd d e = g ∧ 1 ≤ (g : Int) ∧ (g : Int) ≤ d ∧ (g : Int) ≤ e ∧ d / (g : Int) = d1 ∧ e / (g : Int) = e1 ∧
    1 ≤ d1 ∧ d1 ≤ d ∧ 1 ≤ e1 ∧ e1 ≤ e ∧ Int.gcd d1 e1 = 1 ∧ d1 * g = d ∧ e1 * g = e := by
  have gp := Int.gcd_pos_of_ne_zero_right d (b := e) (by omega)
  have h1 := Int.gcd_dvd_left d e
  have h2 := Int.gcd_dvd_right d e
  have l1 := Int.le_of_dvd (by omega) h1
  have l2 := Int.le_of_dvd (by omega) h2
  refine ⟨Int.gcd d e, _, _, rfl, by omega, l1, l2, rfl, rfl, ?_, ?_, ?_, ?_, ?_, Int.ediv_mul_cancel h1, Int.ediv_mul_cancel h2⟩
  · exact (Int.le_ediv_iff_mul_le (by omega)).2 (by omega)
  · exact Int.ediv_le_self _ (by omega)
  · exact (Int.le_ediv_iff_mul_le (by omega)).2 (by omega)
  · exact Int.ediv_le_self _ (by omega)
  · rw [Int.gcd_ediv h1 h2]
    simp
    exact Nat.div_self gp

/-- what is left has no common divisor -/
theorem left_one {p1 q1 n1 d1 e1 d2 n2 p2 q2 e2 : Int} {g h : Nat} (a1 : g3 p1 q1 n1 = 1) (a2 : Int.gcd d1 e1 = 1) (a3 : Int.gcd d2 n2 = 1) (a4 : g3 p2 q2 e2 = 1)
    (b1 : d2 * g = d1) (b2 : n2 * g = n1) (b3 : p2 * h = p1) (b4 : q2 * h = q1) (b5 : e2 * h = e1) : g3 (p2 * d2) (q2 * d2) (n2 * e2) = 1 := by
  unfold g3 at *
  rw [Int.gcd_mul_right, Int.gcd_eq_natAbs_gcd_natAbs]
  rw [Int.gcd_eq_natAbs_gcd_natAbs] at a1 a2 a3 a4
  rw [Int.natAbs_natCast, Int.natAbs_mul]
  rw [Int.natAbs_natCast] at a1 a4
  have c1 : p2.gcd q2 ∣ p1.gcd q1 := by rw [← b3, ← b4, Int.gcd_mul_right]; exact Nat.dvd_mul_right _ _
  have c2 : n2.natAbs ∣ n1.natAbs := by rw [← b2, Int.natAbs_mul]; exact Nat.dvd_mul_right _ _
  have c3 : d2.natAbs ∣ d1.natAbs := by rw [← b1, Int.natAbs_mul]; exact Nat.dvd_mul_right _ _
  have c4 : e2.natAbs ∣ e1.natAbs := by rw [← b5, Int.natAbs_mul]; exact Nat.dvd_mul_right _ _
  exact Nat.Coprime.mul_left (Nat.Coprime.mul_right (Nat.Coprime.coprime_dvd_left c1 (Nat.Coprime.coprime_dvd_right c2 a1)) a4)
    (Nat.Coprime.mul_right a3 (Nat.Coprime.coprime_dvd_left c3 (Nat.Coprime.coprime_dvd_right c4 a2)))

def Cx.fits (n t : Int) : Bool := decide (n ≤ 1000000000 / t) && decide (-(1000000000 / t) ≤ n)

/-- P25.2: the quotient -/
def Cx.div (a b : Cx) : Cx × Int :=
  if a.ok && b.ok then
    if b.isZero then (Cx.zero, 18) else
      let p := a.re * b.re + a.im * b.im
      let q := a.im * b.re - a.re * b.im
      let n := b.re * b.re + b.im * b.im
      let g := g3 p q n
      let p1 := p.tdiv g
      let q1 := q.tdiv g
      let n1 := n / (g : Int)
      let g2 := Int.gcd b.den a.den
      let d1 := b.den / (g2 : Int)
      let e1 := a.den / (g2 : Int)
      let g5 := Int.gcd d1 n1
      let d2 := d1 / (g5 : Int)
      let n2 := n1 / (g5 : Int)
      let g4 := g3 p1 q1 e1
      let p2 := p1.tdiv g4
      let q2 := q1.tdiv g4
      let e2 := e1 / (g4 : Int)
      if Cx.fits p2 d2 && Cx.fits q2 d2 && Cx.fits n2 e2 then (⟨p2 * d2, q2 * d2, n2 * e2⟩, 0) else (Cx.zero, 16)
  else (Cx.zero, 8)

theorem fits_mul {n t : Int} (ht : 1 ≤ t) (h : Cx.fits n t = true) : -1000000000 ≤ n * t ∧ n * t ≤ 1000000000 := by
  simp only [Cx.fits, Bool.and_eq_true, decide_eq_true_eq] at h
  have h1 := Int.mul_le_of_le_ediv (by omega) h.1
  have h2 := Int.mul_le_of_le_ediv (a := -n) (b := 1000000000) (c := t) (by omega) (by omega)
  rw [Int.neg_mul] at h2
  omega

theorem sq_pos {x y : Int} (h : ¬ (x = 0 ∧ y = 0)) : 1 ≤ x * x + y * y := by
  have h1 : 0 ≤ x * x := by rw [← Int.natAbs_mul_self]; omega
  have h2 : 0 ≤ y * y := by rw [← Int.natAbs_mul_self]; omega
  by_cases hx : x = 0
  · have : y ≠ 0 := fun e => h ⟨hx, e⟩
    have h3 : 0 < y * y := by
      rcases Int.lt_or_gt_of_ne this with g | g
      · exact Int.mul_pos_of_neg_of_neg g g
      · exact Int.mul_pos g g
    omega
  · have h3 : 0 < x * x := by
      rcases Int.lt_or_gt_of_ne hx with g | g
      · exact Int.mul_pos_of_neg_of_neg g g
      · exact Int.mul_pos g g
    omega

theorem isZero_false {b : Cx} (h : b.isZero = false) : ¬ (b.re = 0 ∧ b.im = 0) := by
  intro ⟨h1, h2⟩
  simp [Cx.isZero, h1, h2] at h

/-- the steps of a quotient of valid numbers, each number with its bounds -/
theorem div_steps {a b : Cx} (ha : a.ok = true) (hb : b.ok = true) (hz : b.isZero = false) :
    ∃ (p q n : Int) (g : Nat) (p1 q1 n1 : Int) (g2 : Nat) (d1 e1 : Int) (g5 : Nat) (d2 n2 : Int) (g4 : Nat) (p2 q2 e2 : Int),
      (a.re * b.re + a.im * b.im = p ∧ a.im * b.re - a.re * b.im = q ∧ b.re * b.re + b.im * b.im = n) ∧
      ((-2000000000000000000 ≤ p ∧ p ≤ 2000000000000000000) ∧ (-2000000000000000000 ≤ q ∧ q ≤ 2000000000000000000) ∧ (1 ≤ n ∧ n ≤ 2000000000000000000)) ∧
      (g3 p q n = g ∧ 1 ≤ (g : Int) ∧ (g : Int) ≤ 2000000000000000000 ∧ p.tdiv g = p1 ∧ q.tdiv g = q1 ∧ n / (g : Int) = n1) ∧
      ((-2000000000000000000 ≤ p1 ∧ p1 ≤ 2000000000000000000) ∧ (-2000000000000000000 ≤ q1 ∧ q1 ≤ 2000000000000000000) ∧ (1 ≤ n1 ∧ n1 ≤ 2000000000000000000)) ∧
      (Int.gcd b.den a.den = g2 ∧ 1 ≤ (g2 : Int) ∧ (g2 : Int) ≤ 1000000000 ∧ b.den / (g2 : Int) = d1 ∧ a.den / (g2 : Int) = e1) ∧
      ((1 ≤ d1 ∧ d1 ≤ 1000000000) ∧ (1 ≤ e1 ∧ e1 ≤ 1000000000)) ∧
      (Int.gcd d1 n1 = g5 ∧ 1 ≤ (g5 : Int) ∧ (g5 : Int) ≤ 1000000000 ∧ d1 / (g5 : Int) = d2 ∧ n1 / (g5 : Int) = n2) ∧
      ((1 ≤ d2 ∧ d2 ≤ 1000000000) ∧ (1 ≤ n2 ∧ n2 ≤ 2000000000000000000)) ∧
      (g3 p1 q1 e1 = g4 ∧ 1 ≤ (g4 : Int) ∧ (g4 : Int) ≤ 1000000000 ∧ p1.tdiv g4 = p2 ∧ q1.tdiv g4 = q2 ∧ e1 / (g4 : Int) = e2) ∧
      ((-2000000000000000000 ≤ p2 ∧ p2 ≤ 2000000000000000000) ∧ (-2000000000000000000 ≤ q2 ∧ q2 ≤ 2000000000000000000) ∧ (1 ≤ e2 ∧ e2 ≤ 1000000000)) ∧
      Cx.div a b = (if Cx.fits p2 d2 && Cx.fits q2 d2 && Cx.fits n2 e2 then (⟨p2 * d2, q2 * d2, n2 * e2⟩, 0) else (Cx.zero, 16)) ∧
      g3 (p2 * d2) (q2 * d2) (n2 * e2) = 1 := by
  have ba := Cx.bounds ha
  have bb := Cx.bounds hb
  obtain ⟨u1, u2⟩ := mul_bd (x := a.re) (y := b.re) 1000000000 1000000000 (by omega) (by omega) (by omega) (by omega)
  obtain ⟨u3, u4⟩ := mul_bd (x := a.im) (y := b.im) 1000000000 1000000000 (by omega) (by omega) (by omega) (by omega)
  obtain ⟨u5, u6⟩ := mul_bd (x := a.im) (y := b.re) 1000000000 1000000000 (by omega) (by omega) (by omega) (by omega)
  obtain ⟨u7, u8⟩ := mul_bd (x := a.re) (y := b.im) 1000000000 1000000000 (by omega) (by omega) (by omega) (by omega)
  obtain ⟨u9, u10⟩ := mul_bd (x := b.re) (y := b.re) 1000000000 1000000000 (by omega) (by omega) (by omega) (by omega)
  obtain ⟨u11, u12⟩ := mul_bd (x := b.im) (y := b.im) 1000000000 1000000000 (by omega) (by omega) (by omega) (by omega)
  have hn := sq_pos (isZero_false hz)
  have hD : Cx.div a b = Cx.div a b := rfl
  conv at hD => rhs; unfold Cx.div
  rw [ha, hb, hz] at hD
  simp only [Bool.and_self, if_true, Bool.false_eq_true, if_false] at hD
  obtain ⟨p, hp⟩ : ∃ p, a.re * b.re + a.im * b.im = p := ⟨_, rfl⟩
  obtain ⟨q, hq⟩ : ∃ q, a.im * b.re - a.re * b.im = q := ⟨_, rfl⟩
  obtain ⟨n, hn'⟩ : ∃ n, b.re * b.re + b.im * b.im = n := ⟨_, rfl⟩
  rw [hp, hq, hn'] at hD
  rw [hn'] at hn
  obtain ⟨g, p1, q1, n1, x1, x2, x3, x4, x5, x6, x7, x8, x9, x10, x11, x12, x13, x14⟩ := out3 p q n hn
  obtain ⟨g2, d1, e1, y1, y2, y3, y4, y5, y6, y7, y8, y9, y10, y11, y12, y13⟩ := out2 b.den a.den bb.1 ba.1
  obtain ⟨g5, d2, n2, z1, z2, z3, z4, z5, z6, z7, z8, z9, z10, z11, z12, z13⟩ := out2 d1 n1 y7 x9
  obtain ⟨g4, p2, q2, e2, t1, t2, t3, t4, t5, t6, t7, t8, t9, t10, t11, t12, t13, t14⟩ := out3 p1 q1 e1 y9
  rw [x1, x4, x5, x6, y1, y5, y6, z1, z5, z6, t1, t4, t5, t6] at hD
  refine ⟨p, q, n, g, p1, q1, n1, g2, d1, e1, g5, d2, n2, g4, p2, q2, e2, ⟨hp, hq, hn'⟩, ⟨by omega, by omega, by omega⟩, ⟨x1, x2, by omega, x4, x5, x6⟩, ⟨by omega, by omega, by omega⟩, ⟨y1, y2, by omega, y5, y6⟩, ⟨by omega, by omega⟩, ⟨z1, z2, by omega, z5, z6⟩, ⟨by omega, by omega⟩, ⟨t1, t2, by omega, t4, t5, t6⟩, ⟨by omega, by omega, by omega⟩, hD, ?_⟩
  exact left_one x11 y11 z11 t11 z12 z13 t12 t13 t14

theorem g3_zz (n : Int) (h : 1 ≤ n) : (g3 0 0 n : Int) = n := by simp [g3]; omega
/-- 0 divided by a number that is not 0 -/
theorem div_zero_left {a b : Cx} (ha : a.ok = true) (hb : b.ok = true) (hz : b.isZero = false) (hza : a.isZero = true) : Cx.div a b = (a, 0) := by
  have hA := Cx.ok_iff.1 (show (Cx.mk a.re a.im a.den).ok = true from ha)
  simp only [Cx.isZero, Bool.and_eq_true, beq_iff_eq] at hza
  obtain ⟨r0, i0⟩ := hza
  have hden : a.den = 1 := by
    have h5 := hA.2.2.2.2
    rw [r0, i0] at h5
    have := g3_zz a.den hA.1
    omega
  obtain ⟨p, q, n, g, p1, q1, n1, g2, d1, e1, g5, d2, n2, g4, p2, q2, e2, ⟨hp, hq, hn⟩, ⟨b1, b2, b3⟩, ⟨x1, x2, x3, x4, x5, x6⟩, _, ⟨y1, y2, y3, y4, y5⟩, ⟨c1, c2⟩, ⟨z1, z2, z3, z4, z5⟩, ⟨c3, c4⟩, ⟨t1, t2, t3, t4, t5, t6⟩, _, hD, _⟩ := div_steps ha hb hz
  rw [r0, i0] at hp hq
  have hp0 : p = 0 := by rw [← hp]; simp
  have hq0 : q = 0 := by rw [← hq]; simp
  subst hp0 hq0
  have hg : (g : Int) = n := by rw [← x1]; exact g3_zz n b3.1
  have hn1 : n1 = 1 := by rw [← x6, hg]; exact Int.ediv_self (by omega)
  have hp1 : p1 = 0 := by rw [← x4]; simp
  have hq1 : q1 = 0 := by rw [← x5]; simp
  subst hn1 hp1 hq1
  have hg2 : (g2 : Int) = 1 := by rw [← y1, hden]; simp
  have he1 : e1 = 1 := by rw [← y5, hden, hg2]; rfl
  subst he1
  have hg5 : (g5 : Int) = 1 := by rw [← z1]; simp
  have hd2 : d2 = d1 := by rw [← z4, hg5]; simp
  have hn2 : n2 = 1 := by rw [← z5, hg5]; rfl
  have hg4 : (g4 : Int) = 1 := by rw [← t1]; simp [g3]
  have hp2 : p2 = 0 := by rw [← t4]; simp
  have hq2 : q2 = 0 := by rw [← t5]; simp
  have he2 : e2 = 1 := by rw [← t6, hg4]; rfl
  subst hd2 hn2 hp2 hq2 he2
  have h1 : 0 ≤ 1000000000 / d2 := Int.ediv_nonneg (by omega) (by omega)
  rw [hD, if_pos]
  · have hA0 : a = ⟨0, 0, 1⟩ := by cases a; simp_all
    rw [hA0]; simp
  · simp only [Cx.fits, Bool.and_eq_true, decide_eq_true_eq]
    refine ⟨⟨⟨h1, by omega⟩, ⟨h1, by omega⟩⟩, by decide, by decide⟩

theorem red_self {re im den : Int} (hd : 1 ≤ den) (hd' : den ≤ 1000000000) (hr : -1000000000 ≤ re ∧ re ≤ 1000000000) (hi : -1000000000 ≤ im ∧ im ≤ 1000000000) (hg : g3 re im den = 1) : Cx.red re im den = (⟨re, im, den⟩, 0) := by
  rw [Cx.red_pos (by omega), hg]
  simp only [Int.natCast_one, Int.ediv_one]
  rw [if_pos (Cx.ok_iff.2 ⟨hd, small_iff.2 hr, small_iff.2 hi, small_iff.2 ⟨by omega, hd'⟩, hg⟩)]

end Go.Proofs.Ytdjdjbopddkndaa.M
