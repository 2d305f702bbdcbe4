/- Runs of Go code, as printed by a program: no condition beyond those that each states. -/
import Derived.Test.YtlmeemilikladaaMhA
import Derived.Test.YtlmeemilikladaaChecked
import Derived.KernelRfl
namespace Go.Proofs.Ytlmeemilikladaa
set_option linter.unusedVariables false
set_option linter.unusedSimpArgs false
set_option maxRecDepth 100000
open Go.RowKit E
set_option maxHeartbeats 2000000 in
theorem least_y (a0 a1 a2 a3 b x : Int) (h0 : dig a0) (h1 : dig a1) (h2 : dig a2) (h3 : dig a3) (hb : 0 ≤ b ∧ b ≤ 18446744073709551615) (hd : dig (d0 b) ∧ dig (d1 b) ∧ dig (d2 b) ∧ dig (d3 b)) (hv : val4 (d0 b) (d1 b) (d2 b) (d3 b) = b) (hx : val4 a0 a1 a2 a3 = x) (h : x < b) (hc : capW x = x) : PureOk Try.prog 29 ([.nv (wN a0 a1 a2 a3), uA b]) (uA x) :=
  pure_run Gr0_ok Try.func29 (orc := ⟨[true], []⟩) (obl := [(0 : Int) ≤ b,
      b ≤ (18446744073709551615 : Int),
      dig a0,
      dig a1,
      dig a2,
      dig a3,
      dig (d0 b),
      dig (d1 b),
      dig (d2 b),
      dig (d3 b),
      decide (val4 a0 a1 a2 a3 < val4 (d0 b) (d1 b) (d2 b) (d3 b)) = true,
      dig a0,
      dig a1,
      dig a2,
      dig a3,
      capW (val4 a0 a1 a2 a3) = x]) (by kernel_rfl) (.cons (by omega) (.cons (by omega) (.cons (by assumption) (.cons (by assumption) (.cons (by assumption) (.cons (by assumption) (.cons (by exact hd.1) (.cons (by exact hd.2.1) (.cons (by exact hd.2.2.1) (.cons (by exact hd.2.2.2) (.cons (by (simp [*]; done)) (.cons (by assumption) (.cons (by assumption) (.cons (by assumption) (.cons (by assumption) (.cons (by (simp [*]; done)) .nil))))))))))))))))

set_option maxHeartbeats 2000000 in
theorem least_n (a0 a1 a2 a3 b x : Int) (h0 : dig a0) (h1 : dig a1) (h2 : dig a2) (h3 : dig a3) (hb : 0 ≤ b ∧ b ≤ 18446744073709551615) (hd : dig (d0 b) ∧ dig (d1 b) ∧ dig (d2 b) ∧ dig (d3 b)) (hv : val4 (d0 b) (d1 b) (d2 b) (d3 b) = b) (hx : val4 a0 a1 a2 a3 = x) (h : b ≤ x) : PureOk Try.prog 29 ([.nv (wN a0 a1 a2 a3), uA b]) (uA b) :=
  pure_run Gr0_ok Try.func29 (orc := ⟨[false], []⟩) (obl := [(0 : Int) ≤ b,
      b ≤ (18446744073709551615 : Int),
      dig a0,
      dig a1,
      dig a2,
      dig a3,
      dig (d0 b),
      dig (d1 b),
      dig (d2 b),
      dig (d3 b),
      decide (val4 a0 a1 a2 a3 < val4 (d0 b) (d1 b) (d2 b) (d3 b)) = false,
      b = b]) (by kernel_rfl) (.cons (by omega) (.cons (by omega) (.cons (by assumption) (.cons (by assumption) (.cons (by assumption) (.cons (by assumption) (.cons (by exact hd.1) (.cons (by exact hd.2.1) (.cons (by exact hd.2.2.1) (.cons (by exact hd.2.2.2) (.cons (by (simp [*]; done)) (.cons (by rfl) .nil))))))))))))
end Go.Proofs.Ytlmeemilikladaa
