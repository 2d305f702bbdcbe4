/- Runs of Go code, as printed by a program: no condition beyond those that each states. -/
import Derived.Test.YtlmeemilikladaaMgM
import Derived.Test.YtlmeemilikladaaChecked
import Derived.KernelRfl
namespace Go.Proofs.Ytlmeemilikladaa
set_option linter.unusedVariables false
set_option linter.unusedSimpArgs false
set_option maxRecDepth 100000
open Go.RowKit E
set_option maxHeartbeats 2000000 in
theorem smuladd (a b c z : Int) (ha : 0 ≤ a ∧ a ≤ 18446744073709551615) (hb : 0 ≤ b ∧ b ≤ 18446744073709551615) (hc : 0 ≤ c ∧ c ≤ 18446744073709551615) (hz : capU (b * c) = z) (hz2 : 0 ≤ z ∧ z ≤ 18446744073709551615) : PureOk Try.prog 28 ([uA a, uA b, uA c]) (uA (capU (a + z))) :=
  pure_run Gs_ok Try.func28 (orc := ⟨[], []⟩) (obl := [(0 : Int) ≤ b,
      b ≤ (18446744073709551615 : Int),
      (0 : Int) ≤ c,
      c ≤ (18446744073709551615 : Int),
      (0 : Int) ≤ a,
      a ≤ (18446744073709551615 : Int),
      (0 : Int) ≤ capU (b * c),
      capU (b * c) ≤ (18446744073709551615 : Int),
      capU (a + capU (b * c)) = capU (a + z)]) (by kernel_rfl) (.cons (by omega) (.cons (by omega) (.cons (by omega) (.cons (by omega) (.cons (by omega) (.cons (by omega) (.cons (by omega) (.cons (by omega) (.cons (by (subst_vars; rfl)) .nil)))))))))
end Go.Proofs.Ytlmeemilikladaa
