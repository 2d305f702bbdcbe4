/- Wide numbers: digits. No program here. -/
import Derived.Test.YtlmeemilikladaaEC
namespace Go.Proofs.Ytlmeemilikladaa
set_option linter.unusedVariables false
set_option linter.unusedSimpArgs false
open Go.RowKit E

def d0 (x : Int) : Int := x % 4294967296
def d1 (x : Int) : Int := x / 4294967296 % 4294967296
def d2 (x : Int) : Int := x / 18446744073709551616 % 4294967296
def d3 (x : Int) : Int := x / 79228162514264337593543950336
def val4 (a b c d : Int) : Int := a + 4294967296 * b + 18446744073709551616 * c + 79228162514264337593543950336 * d
theorem val4_d {x : Int} (h : 0 ≤ x) : val4 (d0 x) (d1 x) (d2 x) (d3 x) = x := by unfold val4 d0 d1 d2 d3; omega
def dig (x : Int) : Prop := 0 ≤ x ∧ x ≤ 4294967295
theorem dig_d {x : Int} (h : 0 ≤ x ∧ x ≤ 340282366920938463463374607431768211455) : dig (d0 x) ∧ dig (d1 x) ∧ dig (d2 x) ∧ dig (d3 x) := by unfold dig d0 d1 d2 d3; omega
abbrev wN (a b c d : Int) : NV := .agg [.val (.int .u64 a), .val (.int .u64 b), .val (.int .u64 c), .val (.int .u64 d)]
abbrev wD (x : Int) : NV := wN (d0 x) (d1 x) (d2 x) (d3 x)
end Go.Proofs.Ytlmeemilikladaa
