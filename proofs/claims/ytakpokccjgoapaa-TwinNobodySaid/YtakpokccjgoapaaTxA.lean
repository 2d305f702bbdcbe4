/- Runs of Go code, as printed by a program: no condition beyond those that each states. -/
import Derived.Test.YtakpokccjgoapaaTwW
import Derived.Test.YtakpokccjgoapaaChecked
import Derived.KernelRfl
namespace Go.Proofs.Ytakpokccjgoapaa
set_option linter.unusedVariables false
set_option linter.unusedSimpArgs false
set_option maxRecDepth 100000
open Go.RowKit E
set_option maxHeartbeats 2000000 in
theorem nobody (r x : Int) : PureOk Try.prog 6 ([uA r, iA x]) (bA true) :=
  pure_run Gl7_ok Try.func6 (orc := ⟨[true, true, true, true, true, true, true, true, true, true], []⟩) (obl := [Value.pointer none = Value.pointer none,
      Value.pointer none = Value.pointer none,
      Value.pointer none = Value.pointer none,
      Value.pointer none = Value.pointer none,
      Value.pointer none = Value.pointer none,
      r = r,
      x = x,
      Value.pointer none = Value.pointer none,
      r = r,
      x = x,
      (!false) = true,
      (IntKind.wrap IntKind.u64 (IntKind.wrap IntKind.u64 (IntKind.wrap IntKind.u64 ((0 : Int) + (0 : Int)) + (0 : Int)) + (0 : Int)) == (0 : Int)) = true,
      (IntKind.wrap IntKind.i64 (IntKind.wrap IntKind.i64 (IntKind.wrap IntKind.i64 ((0 : Int) + (0 : Int)) + (0 : Int)) + (0 : Int)) == (0 : Int)) = true,
      (!false) = true,
      (!false) = true,
      (!false) = true,
      (!false) = true,
      (x == x) = true,
      true = true,
      Value.pointer none = Value.pointer none,
      ((0 : Int) == (0 : Int)) = true,
      true = true]) (by kernel_rfl) (.cons (by rfl) (.cons (by rfl) (.cons (by rfl) (.cons (by rfl) (.cons (by rfl) (.cons (by rfl) (.cons (by rfl) (.cons (by rfl) (.cons (by rfl) (.cons (by rfl) (.cons (by rfl) (.cons (by rfl) (.cons (by rfl) (.cons (by rfl) (.cons (by rfl) (.cons (by rfl) (.cons (by rfl) (.cons (by exact decide_eq_true (by omega)) (.cons (by rfl) (.cons (by rfl) (.cons (by rfl) (.cons (by rfl) .nil))))))))))))))))))))))
end Go.Proofs.Ytakpokccjgoapaa
