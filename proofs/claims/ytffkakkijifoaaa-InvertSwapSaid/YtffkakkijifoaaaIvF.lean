/- invert: the numbers that the document's loops count. No condition. -/
import Derived.Test.YtffkakkijifoaaaIvE
namespace Go.Proofs.Ytffkakkijifoaaa
set_option linter.unusedVariables false
set_option linter.unusedSimpArgs false
open Go.RowKit E
/-- Of the first m, how many are greater than the i-th. -/
def cGt (L : Nat → Int) (i : Nat) : Nat → Nat
  | 0 => 0
  | m + 1 => cGt L i m + if L i < L m then 1 else 0
/-- Of the m behind the i-th, how many are less. -/
def cAft (L : Nat → Int) (i : Nat) : Nat → Nat
  | 0 => 0
  | m + 1 => cAft L i m + if L (i + 1 + m) < L i then 1 else 0
/-- Of the first m, how many stand ahead of the i-th. -/
def cRk (L : Nat → Int) (i : Nat) : Nat → Nat
  | 0 => 0
  | m + 1 => cRk L i m + if L m < L i ∨ (L m = L i ∧ m < i) then 1 else 0
def invD (L : Nat → Int) (N : Nat) : Nat → Nat
  | 0 => 0
  | i + 1 => invD L N i + cAft L i (N - (i + 1))
def lateF (L : Nat → Int) : Nat → Int := fun i => (cGt L i i : Nat)
def ordF (L : Nat → Int) (N : Nat) : Nat → Nat → Int
  | 0 => z0
  | i + 1 => putF (ordF L N i) (cRk L i N) i
def lo (L e : Nat → Int) (i : Nat) : Nat → Int
  | 0 => 1
  | k + 1 => if L k ≤ L i ∧ lo L e i k < e k + 1 then e k + 1 else lo L e i k
def eR (L : Nat → Int) : Nat → Nat → Int
  | 0 => z0
  | m + 1 => putF (eR L m) m (lo L (eR L m) m m)
def moR (L : Nat → Int) : Nat → Int
  | 0 => 0
  | m + 1 => if moR L m < lo L (eR L m) m m then lo L (eR L m) m m else moR L m
/-- A sum of numbers, as uint64 adds. -/
def sumW (D : Nat → Int) : Nat → Int
  | 0 => 0
  | i + 1 => IntKind.wrap .u64 (sumW D i + IntKind.wrap .u64 (D i))
theorem cGt_le (L : Nat → Int) (i : Nat) : ∀ m, cGt L i m ≤ m
  | 0 => Nat.le_refl _
  | m + 1 => by have := cGt_le L i m; unfold cGt; split <;> omega
theorem cAft_le (L : Nat → Int) (i : Nat) : ∀ m, cAft L i m ≤ m
  | 0 => Nat.le_refl _
  | m + 1 => by have := cAft_le L i m; unfold cAft; split <;> omega
theorem cRk_le (L : Nat → Int) (i : Nat) : ∀ m, cRk L i m ≤ m
  | 0 => Nat.le_refl _
  | m + 1 => by have := cRk_le L i m; unfold cRk; split <;> omega
theorem cRk_lt (L : Nat → Int) (i : Nat) : ∀ m, i < m → cRk L i m < m
  | m + 1, h => by
    unfold cRk
    by_cases q : i = m
    · subst q
      have := cRk_le L i i
      rw [if_neg (by omega)]; omega
    · have := cRk_lt L i m (by omega); split <;> omega
theorem invD_le (L : Nat → Int) (N : Nat) : ∀ m, invD L N m ≤ m * N
  | 0 => by simp [invD]
  | m + 1 => by
    have h1 := invD_le L N m
    have h2 := cAft_le L m (N - (m + 1))
    unfold invD
    rw [Nat.add_mul]; omega
theorem eR_bd (L : Nat → Int) : ∀ m k, 0 ≤ eR L m k ∧ eR L m k ≤ k + 1
  | 0, k => by simp only [eR, z0]; omega
  | m + 1, k => by
    have ih := eR_bd L m
    have hl : ∀ j, 0 ≤ lo L (eR L m) m j ∧ lo L (eR L m) m j ≤ j + 1 := by
      intro j
      induction j with
      | zero => simp [lo]
      | succ j ihj =>
        have := ih j
        unfold lo
        split <;> omega
    have := hl m
    simp only [eR, putF]
    split
    · rename_i e; subst e; exact this
    · exact ih k
theorem lo_bd (L : Nat → Int) (m : Nat) : ∀ j, 1 ≤ lo L (eR L m) m j ∧ lo L (eR L m) m j ≤ j + 1
  | 0 => by simp [lo]
  | j + 1 => by
    have h1 := lo_bd L m j
    have h2 := eR_bd L m j
    unfold lo
    split <;> omega
theorem moR_bd (L : Nat → Int) : ∀ m, 0 ≤ moR L m ∧ moR L m ≤ m
  | 0 => by simp [moR]
  | m + 1 => by
    have h1 := moR_bd L m
    have h2 := lo_bd L m m
    unfold moR
    split <;> omega
end Go.Proofs.Ytffkakkijifoaaa
