/- mail: what is appended. No condition. -/
import Derived.Test.YtajdkbgbekdbmaaMlQ
namespace Go.Proofs.Ytajdkbgbekdbmaa
set_option linter.unusedVariables false
set_option linter.unusedSimpArgs false
open Go.RowKit E
def appN (n m : Nat) (g g2 : Nat → Int) : Nat → Int := fun i => if m = 1 then if i = n then g2 0 else g i else if i < n then g i else g2 (i - n)
theorem appG_if {n m i : Nat} {g g2 : Nat → Int} : (if m = 1 then if i = n then gN g2 0 else gN g i else if i < n then gN g i else gN g2 (i - n)) = gN (appN n m g g2) i := by
  simp only [appN, gN]
  split <;> split <;> rfl
theorem appG_gN {n m : Nat} {g g2 : Nat → Int} : appG n m (gN g) (gN g2) = gN (appN n m g g2) := funext fun i => appG_if
theorem appN_lt {n m i : Nat} {g g2 : Nat → Int} (h : i < n) : appN n m g g2 i = g i := by
  unfold appN
  rw [if_neg (show ¬ i = n by omega), if_pos h]
  split <;> rfl
theorem appN_ge {n m i : Nat} {g g2 : Nat → Int} (h : n ≤ i) (h2 : i < n + m) : appN n m g g2 i = g2 (i - n) := by
  unfold appN
  by_cases e : m = 1
  · rw [if_pos e, if_pos (by omega), show i - n = 0 by omega]
  · rw [if_neg e, if_neg (by omega)]
theorem appN_lists (G T : List Int) (j : Nat) (hj : j < G.length + T.length) : appN G.length T.length (lT G) (lT T) j = lT (G ++ T) j := by
  by_cases h : j < G.length
  · rw [appN_lt h]
    simp only [lT, List.getD_eq_getElem?_getD]
    rw [List.getElem?_append_left h]
  · rw [appN_ge (by omega) hj]
    simp only [lT, List.getD_eq_getElem?_getD]
    rw [List.getElem?_append_right (by omega)]
end Go.Proofs.Ytajdkbgbekdbmaa
