/- header: sums of rows, numbers of two bytes: plain functions. No condition. -/
import Derived.Test.YteehpliloegkgaaWrY
import Derived.Test.YteehpliloegkgaaED
namespace Go.Proofs.Yteehpliloegkgaa
set_option linter.unusedVariables false
set_option linter.unusedSimpArgs false
open Go.RowKit E
def ringZ (a b : Int) : Int := if a + b ≥ 65536 then a + b - 65535 else a + b
def inL : Int → List Int → Int
  | n, [] => n
  | n, [a] => ringZ n (a * 256)
  | n, a :: b :: l => inL (ringZ n (a * 256 + b)) l
/-- The sum of a row. -/
def inetZ (s : ByteArray) : Int := 65535 - inL 0 (ints s)
/-- The number of two bytes at a place. -/
def hfZ (s : ByteArray) (at' : Int) : Int := byteAt s at' * 256 + byteAt s (at' + 1)
/-- Numbers of two bytes each. -/
def halvL (L : Nat → Int) : Nat → List Int
  | 0 => []
  | i + 1 => halvL L i ++ [L i / 256, L i % 256]
abbrev gH (L : Nat → Int) : Nat → List At := fun j => [.val (.int .u16 (L j))]
theorem ringZ_bd {a b : Int} (h : 0 ≤ a ∧ a ≤ 65535) (k : 0 ≤ b ∧ b ≤ 65535) : 0 ≤ ringZ a b ∧ ringZ a b ≤ 65535 := by unfold ringZ; split <;> omega
theorem u16_wrap (x : Int) : IntKind.u16.wrap x = x % 65536 := by simp [IntKind.wrap, IntKind.signed, IntKind.bits]
theorem u32_wrap (x : Int) : IntKind.u32.wrap x = x % 4294967296 := by simp [IntKind.wrap, IntKind.signed, IntKind.bits]
end Go.Proofs.Yteehpliloegkgaa
