/- header: sums by remainders. No condition. -/
import Derived.Test.YteehpliloegkgaaHeC
namespace Go.Proofs.Yteehpliloegkgaa
set_option linter.unusedVariables false
set_option linter.unusedSimpArgs false
open Go.RowKit E
theorem ring_mod {a b : Int} (ha : 0 ≤ a ∧ a ≤ 65535) (hb : 0 ≤ b ∧ b ≤ 65535) : ringZ a b % 65535 = (a + b) % 65535 := by
  unfold ringZ; split <;> omega
theorem ring_pos {a b : Int} (ha : 0 ≤ a ∧ a ≤ 65535) (hb : 0 ≤ b ∧ b ≤ 65535) (h : 0 < a ∨ 0 < b) : 0 < ringZ a b := by
  unfold ringZ; split <;> omega
/-- The numbers of two bytes, added. -/
def prL : List Int → Int
  | [] => 0
  | [a] => a * 256
  | a :: b :: l => a * 256 + b + prL l
theorem inL_mod : ∀ (l : List Int) (n : Int), inB l → 0 ≤ n ∧ n ≤ 65535 → inL n l % 65535 = (n + prL l) % 65535
  | [], n, _, _ => by simp [inL, prL]
  | [a], n, hb, hn => by
    have := hb a (by simp)
    exact ring_mod hn (by omega)
  | a :: b :: l, n, hb, hn => by
    have h1 := hb a (by simp)
    have h2 := hb b (by simp)
    have h3 := ringZ_bd hn (b := a * 256 + b) (by omega)
    have h4 := ring_mod hn (b := a * 256 + b) (by omega)
    have h5 := inL_mod l _ (fun x hx => hb x (by simp [hx])) h3
    unfold inL prL
    omega
theorem inL_pos : ∀ (l : List Int) (n : Int), inB l → 0 ≤ n ∧ n ≤ 65535 → 0 < n → 0 < inL n l
  | [], n, _, _, h => h
  | [a], n, hb, hn, h => by
    have := hb a (by simp)
    exact ring_pos hn (by omega) (.inl h)
  | a :: b :: l, n, hb, hn, h => by
    have h1 := hb a (by simp)
    have h2 := hb b (by simp)
    exact inL_pos l _ (fun x hx => hb x (by simp [hx])) (ringZ_bd hn (by omega)) (ring_pos hn (by omega) (.inl h))
end Go.Proofs.Yteehpliloegkgaa
