/- Meters, in plain numbers: what the program's and the document's steps give. No program here. -/
namespace Go.Proofs.Ytlmeemilikladaa
set_option linter.unusedVariables false

/-- Why a meter of one rate may not be. -/
def ckOne (r n f a b : Int) : Int := if r = 0 then 27 else if (n = 0 ∧ f = 0) ∨ n < a ∨ f < b then 28 else 0
def ckTwo (s q n f a b : Int) : Int := if s = 0 ∨ q < s then 27 else if (n = 0 ∨ f = 0) ∨ n < a ∨ f < b then 28 else 0

/-- The colour of a packet, at a meter of one rate that may be. -/
def colOne (a b x came : Int) : Int := if came ≠ 2 ∧ came ≠ 3 ∧ x ≤ a then 1 else if came ≠ 3 ∧ x ≤ b then 2 else 3
def colTwo (a b x came : Int) : Int := if came = 3 ∨ b < x then 3 else if came = 2 ∨ a < x then 2 else 1

/-- What is left of the tokens behind a packet. -/
def tokA1 (a b x came : Int) : Int := if colOne a b x came = 1 then a - x else a
def tokB1 (a b x came : Int) : Int := if colOne a b x came = 2 then b - x else b
def tokA2 (a b x came : Int) : Int := if colTwo a b x came = 1 then a - x else a
def tokB2 (a b x came : Int) : Int := if colTwo a b x came = 3 then b else b - x

theorem tok1_bd (a b x came : Int) (ha : 0 ≤ a) (hb : 0 ≤ b) (hx : 0 ≤ x) : 0 ≤ tokA1 a b x came ∧ tokA1 a b x came ≤ a ∧ 0 ≤ tokB1 a b x came ∧ tokB1 a b x came ≤ b := by
  unfold tokA1 tokB1 colOne
  (repeat' split) <;> omega
theorem tok2_bd (a b x came : Int) (ha : 0 ≤ a) (hb : 0 ≤ b) (hx : 0 ≤ x) : 0 ≤ tokA2 a b x came ∧ tokA2 a b x came ≤ a ∧ 0 ≤ tokB2 a b x came ∧ tokB2 a b x came ≤ b := by
  unfold tokA2 tokB2 colTwo
  (repeat' split) <;> omega
end Go.Proofs.Ytlmeemilikladaa
