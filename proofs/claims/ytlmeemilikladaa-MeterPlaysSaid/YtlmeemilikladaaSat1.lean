/- Runs of Go code, as printed by a program: no condition beyond those that each states. -/
import Derived.Test.YtlmeemilikladaaSat0
import Derived.Test.YtlmeemilikladaaChecked
import Derived.KernelRfl
namespace Go.Proofs.Ytlmeemilikladaa
set_option linter.unusedVariables false
set_option linter.unusedSimpArgs false
set_option maxRecDepth 100000
open Go.RowKit E
set_option maxHeartbeats 2000000 in
theorem sadd_y (x y : Int) (hx : 0 ≤ x ∧ x ≤ 18446744073709551615) (hy : 0 ≤ y ∧ y ≤ 18446744073709551615) (h : x + y ≤ 18446744073709551615) : PureOk Try.prog 31 ([.nv (.one (.val (.int .u64 x))), .nv (.one (.val (.int .u64 y)))]) (.nv (.one (.val (.int .u64 (x + y))))) :=
  pure_run Gb_ok Try.func31 (orc := ⟨[false], []⟩) (obl := [(0 : Int) ≤ x,
      (0 : Int) ≤ y,
      (0 : Int) ≤ (0 : Int),
      (0 : Int) ≤ (1 : Int),
      decide ((x + y + (0 : Int)) / (18446744073709551616 : Int) > (0 : Int)) = false,
      (x + y + (0 : Int)) % (18446744073709551616 : Int) = x + y]) (by kernel_rfl) (.cons (by omega) (.cons (by omega) (.cons (by trivial) (.cons (by trivial) (.cons (by exact decide_eq_false (by omega)) (.cons (by omega) .nil))))))

set_option maxHeartbeats 2000000 in
theorem sadd_n (x y : Int) (hx : 0 ≤ x ∧ x ≤ 18446744073709551615) (hy : 0 ≤ y ∧ y ≤ 18446744073709551615) (h : 18446744073709551615 < x + y) : PureOk Try.prog 31 ([.nv (.one (.val (.int .u64 x))), .nv (.one (.val (.int .u64 y)))]) (.nv (.one (.val (.int .u64 18446744073709551615)))) :=
  pure_run Gb_ok Try.func31 (orc := ⟨[true], []⟩) (obl := [(0 : Int) ≤ x,
      (0 : Int) ≤ y,
      (0 : Int) ≤ (0 : Int),
      (0 : Int) ≤ (1 : Int),
      decide ((x + y + (0 : Int)) / (18446744073709551616 : Int) > (0 : Int)) = true,
      (18446744073709551615 : Int) = (18446744073709551615 : Int)]) (by kernel_rfl) (.cons (by omega) (.cons (by omega) (.cons (by trivial) (.cons (by trivial) (.cons (by exact decide_eq_true (by omega)) (.cons (by rfl) .nil))))))

set_option maxHeartbeats 2000000 in
theorem smul_y (x y : Int) (hx : 0 ≤ x ∧ x ≤ 18446744073709551615) (hy : 0 ≤ y ∧ y ≤ 18446744073709551615) (h0 : 0 ≤ x * y) (h : x * y ≤ 18446744073709551615) : PureOk Try.prog 32 ([.nv (.one (.val (.int .u64 x))), .nv (.one (.val (.int .u64 y)))]) (.nv (.one (.val (.int .u64 (x * y))))) :=
  pure_run Gb_ok Try.func32 (orc := ⟨[false], []⟩) (obl := [(0 : Int) ≤ x,
      x ≤ (18446744073709551615 : Int),
      (0 : Int) ≤ y,
      y ≤ (18446744073709551615 : Int),
      decide (x * y / (18446744073709551616 : Int) > (0 : Int)) = false,
      x * y % (18446744073709551616 : Int) = x * y]) (by kernel_rfl) (.cons (by omega) (.cons (by omega) (.cons (by omega) (.cons (by omega) (.cons (by exact decide_eq_false (by omega)) (.cons (by omega) .nil))))))

set_option maxHeartbeats 2000000 in
theorem smul_n (x y : Int) (hx : 0 ≤ x ∧ x ≤ 18446744073709551615) (hy : 0 ≤ y ∧ y ≤ 18446744073709551615) (h : 18446744073709551615 < x * y) : PureOk Try.prog 32 ([.nv (.one (.val (.int .u64 x))), .nv (.one (.val (.int .u64 y)))]) (.nv (.one (.val (.int .u64 18446744073709551615)))) :=
  pure_run Gb_ok Try.func32 (orc := ⟨[true], []⟩) (obl := [(0 : Int) ≤ x,
      x ≤ (18446744073709551615 : Int),
      (0 : Int) ≤ y,
      y ≤ (18446744073709551615 : Int),
      decide (x * y / (18446744073709551616 : Int) > (0 : Int)) = true,
      (18446744073709551615 : Int) = (18446744073709551615 : Int)]) (by kernel_rfl) (.cons (by omega) (.cons (by omega) (.cons (by omega) (.cons (by omega) (.cons (by exact decide_eq_true (by omega)) (.cons (by rfl) .nil))))))
end Go.Proofs.Ytlmeemilikladaa
