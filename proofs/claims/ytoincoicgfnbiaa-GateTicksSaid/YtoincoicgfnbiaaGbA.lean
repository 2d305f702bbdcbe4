/- gate: ticks. No condition. -/
import Derived.Test.YtoincoicgfnbiaaGaW
namespace Go.Proofs.Ytoincoicgfnbiaa
set_option linter.unusedVariables false
set_option linter.unusedSimpArgs false
open Go.RowKit E
abbrev gB8 (G : Nat → Int) : Nat → List At := fun k => [.val (.int .u8 (G k))]
def bOf (g : Nat → List At) : Nat → Int := fun k => cell0 (g k)
/-- How long a slot is, of a byte. -/
def spB (x : Int) : Int := Int.tmod x 10 + 1
theorem spB_bd {x : Int} (h : 0 ≤ x ∧ x ≤ 255) : 1 ≤ spB x ∧ spB x ≤ 10 := by
  unfold spB
  have := Int.tmod_eq_emod_of_nonneg (b := 10) h.1
  omega
def spF (P : Nat → Int) : Nat → Int := fun k => spB (P k)
/-- The tick's classes. -/
def tkF (m : Nat) (P U : Nat → Int) : Nat → Int := fun k => U (sl (spF P) k m)
end Go.Proofs.Ytoincoicgfnbiaa
