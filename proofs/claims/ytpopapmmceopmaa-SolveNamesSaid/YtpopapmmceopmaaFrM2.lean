/- Numbers of 128 bits in two halves. -/
import Derived.Test.YtpopapmmceopmaaFrM
namespace Go.Proofs.Ytpopapmmceopmaa.M

def whi (V : Int) : Int := V / 18446744073709551616
def wlo (V : Int) : Int := V % 18446744073709551616
theorem whi_bd {V : Int} (h0 : 0 ≤ V) (h1 : V ≤ 340282366920938463463374607431768211455) : 0 ≤ whi V ∧ whi V ≤ 18446744073709551615 := by unfold whi; omega
theorem wlo_bd (V : Int) : 0 ≤ wlo V ∧ wlo V ≤ 18446744073709551615 := by unfold wlo; omega
theorem w_eq (V : Int) : whi V * 18446744073709551616 + wlo V = V := by unfold whi wlo; omega
theorem w_small {V : Int} (h0 : 0 ≤ V) : whi V = 0 ↔ V ≤ 18446744073709551615 := by unfold whi; omega
theorem w_lo {V : Int} (h0 : 0 ≤ V) (h : whi V = 0) : wlo V = V := by unfold whi wlo at *; omega
theorem w_ge {V h : Int} (h0 : 0 ≤ h) : h ≤ whi V ↔ h * 18446744073709551616 ≤ V := by unfold whi; omega

theorem w_add (U V : Int) : whi U + whi V + whi (wlo U + wlo V) = whi (U + V) ∧ wlo (wlo U + wlo V) = wlo (U + V) := by unfold whi wlo; omega
theorem whi_sum (U V : Int) : 0 ≤ whi (wlo U + wlo V) ∧ whi (wlo U + wlo V) ≤ 1 := by unfold whi wlo; omega
/-- the borrow -/
def wow (x y : Int) : Int := if x < y then 1 else 0
theorem w_sub (U V : Int) : whi U - whi V - wow (wlo U) (wlo V) = whi (U - V) ∧ wlo (wlo U - wlo V) = wlo (U - V) := by unfold whi wlo wow; split <;> omega
theorem wow_bd (x y : Int) : 0 ≤ wow x y ∧ wow x y ≤ 1 := by unfold wow; split <;> omega
theorem w_le {U V : Int} (h : V ≤ U) : whi V ≤ whi U := by unfold whi; omega
theorem w_le' {U V : Int} (h : V ≤ U) : wow (wlo U) (wlo V) ≤ whi U - whi V := by unfold whi wlo wow; split <;> omega
def cmpN (x y : Int) : Int := if x < y then -1 else if x = y then 0 else 1
theorem w_cmp (U V : Int) : (if cmpN (whi U) (whi V) = 0 then cmpN (wlo U) (wlo V) else cmpN (whi U) (whi V)) = cmpN U V := by
  have d : U = whi U * 18446744073709551616 + wlo U := (w_eq U).symm
  have e : V = whi V * 18446744073709551616 + wlo V := (w_eq V).symm
  have bu := wlo_bd U
  have bv := wlo_bd V
  generalize whi U = a at *
  generalize whi V = b at *
  generalize wlo U = c at *
  generalize wlo V = f at *
  have k1 : ∀ {x y : Int}, x < y → cmpN x y = -1 := fun h => if_pos h
  have k2 : ∀ {x y : Int}, x = y → cmpN x y = 0 := fun h => by unfold cmpN; rw [if_neg (by omega), if_pos h]
  have k3 : ∀ {x y : Int}, y < x → cmpN x y = 1 := fun h => by unfold cmpN; rw [if_neg (by omega), if_neg (by omega)]
  rcases Int.lt_trichotomy a b with h | h | h
  · rw [k1 h, if_neg (by decide), k1 (by omega)]
  · rw [k2 h, if_pos rfl]
    rcases Int.lt_trichotomy c f with k | k | k
    · rw [k1 k, k1 (by omega)]
    · rw [k2 k, k2 (by omega)]
    · rw [k3 k, k3 (by omega)]
  · rw [k3 h, if_neg (by decide), k3 (by omega)]

end Go.Proofs.Ytpopapmmceopmaa.M
