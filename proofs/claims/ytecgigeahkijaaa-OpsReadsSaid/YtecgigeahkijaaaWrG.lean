/- Runs of Go code, as printed by a program: no condition beyond those that each states. -/
import Derived.Test.YtecgigeahkijaaaWrF
import Derived.Test.YtecgigeahkijaaaChecked
import Derived.KernelRfl
namespace Go.Proofs.Ytecgigeahkijaaa
set_option linter.unusedVariables false
set_option linter.unusedSimpArgs false
set_option maxRecDepth 100000
open Go.RowKit E
set_option maxHeartbeats 2000000 in
theorem wd_1  : PureOk Try.prog 33 ([iA 1]) (iA 1) :=
  pure_run G0_ok Try.func33 (orc := ⟨[true, true], []⟩) (obl := [decide ((1 : Int) ≥ (1 : Int)) = true,
      decide ((1 : Int) ≤ (4 : Int)) = true,
      (0 : Int) ≤ IntKind.wrap IntKind.i64 ((1 : Int) - (1 : Int)),
      IntKind.wrap IntKind.i64 ((1 : Int) * (2 : Int) ^ (0 : Nat)) = (1 : Int)]) (by kernel_rfl) (.cons (by rfl) (.cons (by rfl) (.cons (by trivial) (.cons (by rfl) .nil))))

set_option maxHeartbeats 2000000 in
theorem wd_2  : PureOk Try.prog 33 ([iA 2]) (iA 2) :=
  pure_run G0_ok Try.func33 (orc := ⟨[true, true], []⟩) (obl := [decide ((2 : Int) ≥ (1 : Int)) = true,
      decide ((2 : Int) ≤ (4 : Int)) = true,
      (0 : Int) ≤ IntKind.wrap IntKind.i64 ((2 : Int) - (1 : Int)),
      IntKind.wrap IntKind.i64 ((1 : Int) * (2 : Int) ^ (1 : Nat)) = (2 : Int)]) (by kernel_rfl) (.cons (by rfl) (.cons (by rfl) (.cons (by trivial) (.cons (by rfl) .nil))))

set_option maxHeartbeats 2000000 in
theorem wd_3  : PureOk Try.prog 33 ([iA 3]) (iA 4) :=
  pure_run G0_ok Try.func33 (orc := ⟨[true, true], []⟩) (obl := [decide ((3 : Int) ≥ (1 : Int)) = true,
      decide ((3 : Int) ≤ (4 : Int)) = true,
      (0 : Int) ≤ IntKind.wrap IntKind.i64 ((3 : Int) - (1 : Int)),
      IntKind.wrap IntKind.i64 ((1 : Int) * (2 : Int) ^ (2 : Nat)) = (4 : Int)]) (by kernel_rfl) (.cons (by rfl) (.cons (by rfl) (.cons (by trivial) (.cons (by rfl) .nil))))

set_option maxHeartbeats 2000000 in
theorem wd_4  : PureOk Try.prog 33 ([iA 4]) (iA 8) :=
  pure_run G0_ok Try.func33 (orc := ⟨[true, true], []⟩) (obl := [decide ((4 : Int) ≥ (1 : Int)) = true,
      decide ((4 : Int) ≤ (4 : Int)) = true,
      (0 : Int) ≤ IntKind.wrap IntKind.i64 ((4 : Int) - (1 : Int)),
      IntKind.wrap IntKind.i64 ((1 : Int) * (2 : Int) ^ (3 : Nat)) = (8 : Int)]) (by kernel_rfl) (.cons (by rfl) (.cons (by rfl) (.cons (by trivial) (.cons (by rfl) .nil))))

set_option maxHeartbeats 2000000 in
theorem wd_l (k : Int) (h : k < 1) : PureOk Try.prog 33 ([iA k]) (iA 0) :=
  pure_run G0_ok Try.func33 (orc := ⟨[false, false], []⟩) (obl := [decide (k ≥ (1 : Int)) = false,
      false = false,
      (0 : Int) = (0 : Int)]) (by kernel_rfl) (.cons (by exact decide_eq_false (by omega)) (.cons (by rfl) (.cons (by rfl) .nil)))

set_option maxHeartbeats 2000000 in
theorem wd_h (k : Int) (h : 4 < k) : PureOk Try.prog 33 ([iA k]) (iA 0) :=
  pure_run G0_ok Try.func33 (orc := ⟨[true, false], []⟩) (obl := [decide (k ≥ (1 : Int)) = true,
      decide (k ≤ (4 : Int)) = false,
      (0 : Int) = (0 : Int)]) (by kernel_rfl) (.cons (by exact decide_eq_true (by omega)) (.cons (by exact decide_eq_false (by omega)) (.cons (by rfl) .nil)))
end Go.Proofs.Ytecgigeahkijaaa
