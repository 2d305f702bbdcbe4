/- wire: rows of fields put, held side by side, and counted; numbers read: plain functions. No condition. -/
import Derived.Test.YtecgigeahkijaaaWrV
import Derived.Laws.BitsAllLaws
namespace Go.Proofs.Ytecgigeahkijaaa
set_option linter.unusedVariables false
set_option linter.unusedSimpArgs false
open Go.RowKit E

def mn7 (n : Int) : Int := if (70000 : Int) < n then 70000 else n
def fewT (L : Nat → Fl) : Nat → Int
  | 0 => 0
  | i + 1 => fewT L i + (mn7 (L i).s.size + 1)
theorem mn7_bd {n : Int} (h : 0 ≤ n) : 0 ≤ mn7 n ∧ mn7 n ≤ 70000 := by unfold mn7; split <;> omega
theorem fewT_up (L : Nat → Fl) : ∀ {j i : Nat}, i ≤ j → fewT L i ≤ fewT L j
  | 0, i, h => by have : i = 0 := by omega
                  subst this; exact Int.le_refl _
  | j + 1, i, h => by
    by_cases e : i = j + 1
    · subst e; exact Int.le_refl _
    · have := fewT_up L (j := j) (i := i) (by omega)
      have := mn7_bd (n := ((L j).s.size : Int)) (by omega)
      rw [fewT]; omega
theorem fewT_pos (L : Nat → Fl) (i : Nat) : 0 ≤ fewT L i := fewT_up L (Nat.zero_le i)
def fewB (L : Nat → Fl) (len : Nat) : Bool := decide (fewT L len ≤ 80000) && decide (len ≤ 200)
def idF : Fl := ⟨0, 0, .empty⟩
/-- A number whose low i bits are nought, with one of i bits. -/
theorem orZ (i : Nat) {a b : Int} (h0 : 0 ≤ a) (h1 : a < 18446744073709551616) (h2 : a % 2 ^ i = 0) (h3 : 0 ≤ b) (h4 : b < 2 ^ i) (h5 : b < 18446744073709551616) : bits .or .u64 a b = a + b := by
  rw [u64_or a b h0 h1 h3 h5]
  obtain ⟨a, rfl⟩ := Int.eq_ofNat_of_zero_le h0
  obtain ⟨b, rfl⟩ := Int.eq_ofNat_of_zero_le h3
  simp only [Int.toNat_natCast]
  have e : (2 : Int) ^ i = ((2 ^ i : Nat) : Int) := by rw [Int.natCast_pow]; rfl
  rw [e] at h2 h4
  have hm : a % 2 ^ i = 0 := by exact_mod_cast h2
  have hb : b < 2 ^ i := by exact_mod_cast h4
  have hq : a = 2 ^ i * (a / 2 ^ i) := by
    have := Nat.div_add_mod a (2 ^ i); omega
  rw [hq, ← Nat.two_pow_add_eq_or_of_lt hb (a / 2 ^ i)]
  omega
theorem orZ' (i : Nat) {a b : Int} (h0 : 0 ≤ a) (h1 : a < 18446744073709551616) (h2 : a % 2 ^ i = 0) (h3 : 0 ≤ b) (h4 : b < 2 ^ i) (h5 : b < 18446744073709551616) : bits .or .u64 b a = b + a := by
  rw [u64_or b a h3 h5 h0 h1, Nat.or_comm, ← u64_or a b h0 h1 h3 h5, orZ i h0 h1 h2 h3 h4 h5, Int.add_comm]
/-- A number of bytes, the highest first, behind one. -/
def bigZ (n : Int) : List Int → Int
  | [] => n
  | c :: l => bigZ (n * 256 + c) l
/-- A number of as few bytes as it takes, with which a row begins: the number, how many bytes, what is wrong. -/
def numL : Nat → Int → List Int → Int × Int × Int
  | _, _, [] => (0, 0, 2)
  | i, n, c :: l => if (i = 9 ∧ 1 < c) ∨ (0 < i ∧ c = 0) then (0, 0, 3) else if c < 128 then (n + c * 128 ^ i, i + 1, 0) else numL (i + 1) (n + (c - 128) * 128 ^ i) l
end Go.Proofs.Ytecgigeahkijaaa
