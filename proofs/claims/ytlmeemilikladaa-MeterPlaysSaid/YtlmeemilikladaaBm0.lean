/- 64 by 64 bits: the upper half, as the library reckons it. No condition. -/
import Derived.Test.YtlmeemilikladaaE9
import Derived.Shelf.Bits.Mul64
namespace Go.Proofs.Ytlmeemilikladaa
set_option linter.unusedVariables false
set_option linter.unusedSimpArgs false
open Go.RowKit E

theorem fdiv32 (a : Int) : Int.fdiv a ((2 : Int) ^ (32 : Nat)) = a / 4294967296 := by
  rw [show ((2 : Int) ^ (32 : Nat)) = 4294967296 from rfl]; exact Int.fdiv_eq_ediv_of_nonneg a (by omega)
open Go.Proofs in
theorem mul_hi_expr (x y : Nat) (hx : x < 18446744073709551616) (hy : y < 18446744073709551616) : IntKind.wrap IntKind.u64 (IntKind.wrap IntKind.u64 (IntKind.wrap IntKind.u64 (Int.fdiv (↑x : Int) ((2 : Int) ^ (32 : Nat)) * Int.fdiv (↑y : Int) ((2 : Int) ^ (32 : Nat))) + Int.fdiv (IntKind.wrap IntKind.u64 (IntKind.wrap IntKind.u64 (Int.fdiv (↑x : Int) ((2 : Int) ^ (32 : Nat)) * bits BinOp.and IntKind.u64 (↑y : Int) (4294967295 : Int)) + Int.fdiv (IntKind.wrap IntKind.u64 (bits BinOp.and IntKind.u64 (↑x : Int) (4294967295 : Int) * bits BinOp.and IntKind.u64 (↑y : Int) (4294967295 : Int))) ((2 : Int) ^ (32 : Nat)))) ((2 : Int) ^ (32 : Nat))) + Int.fdiv (IntKind.wrap IntKind.u64 (bits BinOp.and IntKind.u64 (IntKind.wrap IntKind.u64 (IntKind.wrap IntKind.u64 (Int.fdiv (↑x : Int) ((2 : Int) ^ (32 : Nat)) * bits BinOp.and IntKind.u64 (↑y : Int) (4294967295 : Int)) + Int.fdiv (IntKind.wrap IntKind.u64 (bits BinOp.and IntKind.u64 (↑x : Int) (4294967295 : Int) * bits BinOp.and IntKind.u64 (↑y : Int) (4294967295 : Int))) ((2 : Int) ^ (32 : Nat)))) (4294967295 : Int) + IntKind.wrap IntKind.u64 (bits BinOp.and IntKind.u64 (↑x : Int) (4294967295 : Int) * Int.fdiv (↑y : Int) ((2 : Int) ^ (32 : Nat))))) ((2 : Int) ^ (32 : Nat))) = (↑(x * y / (18446744073709551616 : Nat)) : Int) := by
  obtain ⟨bd, bt, bw, hhi⟩ := Go.Lib.mul64_hi x y hx hy
  have ba := Go.Lib.half_mul_le (a := x / 4294967296) (b := y / 4294967296) (by omega) (by omega)
  have bb := Go.Lib.half_mul_le (a := x / 4294967296) (b := y % 4294967296) (by omega) (by omega)
  have bc := Go.Lib.half_mul_le (a := x % 4294967296) (b := y / 4294967296) (by omega) (by omega)
  have ba' : x / 4294967296 * (y / 4294967296) < 18446744073709551616 := by omega
  have bb' : x / 4294967296 * (y % 4294967296) < 18446744073709551616 := by omega
  have bc' : x % 4294967296 * (y / 4294967296) < 18446744073709551616 := by omega
  have bh1 : x / 4294967296 * (y / 4294967296) + (x / 4294967296 * (y % 4294967296) + x % 4294967296 * (y % 4294967296) / 4294967296) / 4294967296 < 18446744073709551616 := by omega
  have bh : x / 4294967296 * (y / 4294967296) + (x / 4294967296 * (y % 4294967296) + x % 4294967296 * (y % 4294967296) / 4294967296) / 4294967296 + ((x / 4294967296 * (y % 4294967296) + x % 4294967296 * (y % 4294967296) / 4294967296) % 4294967296 + x % 4294967296 * (y / 4294967296)) / 4294967296 < 18446744073709551616 := by omega
  simp only [fdiv32, Mul64.maskN x hx, Mul64.maskN y hy, Mul64.divN, Mul64.mulN, Mul64.addN, Mul64.wrapN _ bd, Mul64.wrapN _ bb', Mul64.wrapN _ bt, Mul64.maskN _ bt, Mul64.wrapN _ bc', Mul64.wrapN _ bw, Mul64.wrapN _ ba', Mul64.wrapN _ bh1, Mul64.wrapN _ bh]
  rw [hhi]
theorem mul_lo_expr (x y : Nat) : IntKind.wrap IntKind.u64 ((x : Int) * (y : Int)) = ((x * y % 18446744073709551616 : Nat) : Int) := by
  rw [← Int.natCast_mul]; exact Go.Proofs.Mul64.wrapM (x * y)
end Go.Proofs.Ytlmeemilikladaa
