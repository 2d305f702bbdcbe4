/- Runs of Go code, as printed by a program: no condition beyond those that each states. -/
import Derived.Test.YtlmeemilikladaaBm0
import Derived.Test.YtlmeemilikladaaChecked
import Derived.KernelRfl
namespace Go.Proofs.Ytlmeemilikladaa
set_option linter.unusedVariables false
set_option linter.unusedSimpArgs false
set_option maxRecDepth 100000
open Go.RowKit E
set_option maxHeartbeats 2000000 in
theorem mul64 (x y : Nat) (hx : x < 18446744073709551616) (hy : y < 18446744073709551616) : PureOk Try.prog 26 ([.nv (.one (.val (.int .u64 x))), .nv (.one (.val (.int .u64 y)))]) (.tup [.one (.val (.int .u64 ((x * y / 18446744073709551616 : Nat) : Int))), .one (.val (.int .u64 ((x * y % 18446744073709551616 : Nat) : Int)))]) :=
  pure_run G0_ok Try.func26 (orc := ⟨[], []⟩) (obl := [(0 : Int) ≤ (32 : Int),
      (0 : Int) ≤ (32 : Int),
      (0 : Int) ≤ (32 : Int),
      (0 : Int) ≤ (32 : Int),
      (0 : Int) ≤ (32 : Int),
      IntKind.wrap IntKind.u64 (IntKind.wrap IntKind.u64 (IntKind.wrap IntKind.u64 (Int.fdiv (↑x : Int) ((2 : Int) ^ (32 : Nat)) * Int.fdiv (↑y : Int) ((2 : Int) ^ (32 : Nat))) + Int.fdiv (IntKind.wrap IntKind.u64 (IntKind.wrap IntKind.u64 (Int.fdiv (↑x : Int) ((2 : Int) ^ (32 : Nat)) * bits BinOp.and IntKind.u64 (↑y : Int) (4294967295 : Int)) + Int.fdiv (IntKind.wrap IntKind.u64 (bits BinOp.and IntKind.u64 (↑x : Int) (4294967295 : Int) * bits BinOp.and IntKind.u64 (↑y : Int) (4294967295 : Int))) ((2 : Int) ^ (32 : Nat)))) ((2 : Int) ^ (32 : Nat))) + Int.fdiv (IntKind.wrap IntKind.u64 (bits BinOp.and IntKind.u64 (IntKind.wrap IntKind.u64 (IntKind.wrap IntKind.u64 (Int.fdiv (↑x : Int) ((2 : Int) ^ (32 : Nat)) * bits BinOp.and IntKind.u64 (↑y : Int) (4294967295 : Int)) + Int.fdiv (IntKind.wrap IntKind.u64 (bits BinOp.and IntKind.u64 (↑x : Int) (4294967295 : Int) * bits BinOp.and IntKind.u64 (↑y : Int) (4294967295 : Int))) ((2 : Int) ^ (32 : Nat)))) (4294967295 : Int) + IntKind.wrap IntKind.u64 (bits BinOp.and IntKind.u64 (↑x : Int) (4294967295 : Int) * Int.fdiv (↑y : Int) ((2 : Int) ^ (32 : Nat))))) ((2 : Int) ^ (32 : Nat))) = (↑(x * y / (18446744073709551616 : Nat)) : Int),
      IntKind.wrap IntKind.u64 ((↑x : Int) * (↑y : Int)) = (↑(x * y % (18446744073709551616 : Nat)) : Int)]) (by kernel_rfl) (.cons (by trivial) (.cons (by trivial) (.cons (by trivial) (.cons (by trivial) (.cons (by trivial) (.cons (by exact mul_hi_expr x y hx hy) (.cons (by rfl) .nil)))))))
end Go.Proofs.Ytlmeemilikladaa
