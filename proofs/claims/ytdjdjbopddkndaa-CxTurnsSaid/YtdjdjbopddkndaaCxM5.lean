/- The quarter of a turn in which a ray lies. -/
import Derived.Test.YtdjdjbopddkndaaCxM4
namespace Go.Proofs.Ytdjdjbopddkndaa.M

def Cx.qtr (a : Cx) : Int := if 0 < a.re ∧ 0 ≤ a.im then 0 else if a.re ≤ 0 ∧ 0 < a.im then 1 else if a.re < 0 then 2 else 3

theorem qtr_cases {a : Cx} (h : ¬ (a.re = 0 ∧ a.im = 0)) :
    (a.qtr = 0 ∧ a.upper = true ∧ 0 < a.re ∧ 0 ≤ a.im) ∨ (a.qtr = 1 ∧ a.upper = true ∧ a.re ≤ 0 ∧ 0 < a.im) ∨
    (a.qtr = 2 ∧ a.upper = false ∧ a.re < 0 ∧ a.im ≤ 0) ∨ (a.qtr = 3 ∧ a.upper = false ∧ 0 ≤ a.re ∧ a.im < 0) := by
  have hu : a.upper = true ↔ 0 < a.im ∨ a.im = 0 ∧ 0 < a.re := by simp [Cx.upper]
  have hu' : a.upper = false ↔ ¬ (0 < a.im ∨ a.im = 0 ∧ 0 < a.re) := by rw [← hu]; simp
  unfold Cx.qtr
  rw [hu, hu']
  split
  · omega
  · split
    · omega
    · split <;> omega

theorem nn {x y : Int} (hx : x ≤ 0) (hy : y ≤ 0) : 0 ≤ x * y := by
  have := Int.mul_nonneg (a := -x) (b := -y) (by omega) (by omega); rwa [Int.neg_mul_neg] at this
theorem np {x y : Int} (hx : x ≤ 0) (hy : 0 ≤ y) : x * y ≤ 0 := by
  have := Int.mul_nonneg (a := -x) (b := y) (by omega) (by omega); rw [Int.neg_mul] at this; omega
theorem pn {x y : Int} (hx : 0 ≤ x) (hy : y ≤ 0) : x * y ≤ 0 := by rw [Int.mul_comm]; exact np hy hx

/-- the order by quarters is that by halves -/
theorem order_qtr {a b : Cx} (ha : a.isZero = false) (hb : b.isZero = false) :
    (if a.upper != b.upper then (if a.upper then (-1 : Int) else 1) else cmpI (a.im * b.re - a.re * b.im) 0) =
    (if a.qtr < b.qtr ∨ a.qtr = b.qtr ∧ a.im * b.re - a.re * b.im < 0 then -1 else if b.qtr < a.qtr ∨ 0 < a.im * b.re - a.re * b.im then 1 else 0) := by
  have hq : ∀ t : Int, cmpI t 0 = if t < 0 then -1 else if 0 < t then 1 else 0 := by
    intro t; unfold cmpI; split
    · rfl
    · split
      · rw [if_neg (by omega)]
      · rw [if_pos (by omega)]
  rw [hq]
  rcases qtr_cases (isZero_false ha) with ⟨q, u, h1, h2⟩ | ⟨q, u, h1, h2⟩ | ⟨q, u, h1, h2⟩ | ⟨q, u, h1, h2⟩ <;>
    rcases qtr_cases (isZero_false hb) with ⟨q', u', k1, k2⟩ | ⟨q', u', k1, k2⟩ | ⟨q', u', k1, k2⟩ | ⟨q', u', k1, k2⟩ <;>
    rw [q, u, q', u'] <;> simp <;> first | done | skip
  · have e1 := pn h2 k1; have e2 := Int.mul_pos h1 k2; omega
  · have e1 := Int.mul_pos h2 k1; have e2 := np h1 k2; omega
  · have e1 := np h2 k1; have e2 := Int.mul_pos_of_neg_of_neg h1 k2; omega
  · have e1 := Int.mul_pos_of_neg_of_neg h2 k1; have e2 := pn h1 k2; omega

theorem quarter_step {a : Cx} {k : Nat} {x y d : Int} (h : a.quarter k = ⟨x, y, d⟩) (hk : k < 3) : a.quarter ((k + 1 : Nat) : Int) = ⟨-y, x, d⟩ := by
  have : k = 0 ∨ k = 1 ∨ k = 2 := by omega
  rcases this with rfl | rfl | rfl
  all_goals
    simp [Cx.quarter] at h ⊢
  · subst h; simp
  · obtain ⟨h1, h2, h3⟩ := h; subst h1 h2 h3; simp
  · obtain ⟨h1, h2, h3⟩ := h; subst h1 h2 h3; simp

end Go.Proofs.Ytdjdjbopddkndaa.M
