/- Runs of Go code, as printed by a program: no condition beyond those that each states. -/
import Derived.Test.YtmhkbepnankopaaAeN
import Derived.Test.YtmhkbepnankopaaChecked
import Derived.KernelRfl
namespace Go.Proofs.Ytmhkbepnankopaa
set_option linter.unusedVariables false
set_option linter.unusedSimpArgs false
set_option maxRecDepth 100000
open Go.RowKit E
set_option maxHeartbeats 2000000 in
theorem nb17 (id k : Int) : LawOk Try.prog 6 ([u32A id, uA k]) ([]) (bA true) :=
  law_run Gap_ok Try.func6 (orc := ⟨[true, true, true, true, true, true], []⟩) (obl := [Value.pointer none = Value.pointer none,
      Value.pointer none = Value.pointer none,
      id = id,
      Value.pointer none = Value.pointer none,
      id = id,
      k = k,
      ((10 : Int) == (10 : Int)) = true,
      Value.pointer none = Value.pointer none,
      id = id,
      k = k,
      ((10 : Int) == (10 : Int)) = true,
      Value.pointer none = Value.pointer none,
      id = id,
      k = k,
      ((10 : Int) == (10 : Int)) = true,
      Value.pointer none = Value.pointer none,
      id = id,
      k = k,
      ((10 : Int) == (10 : Int)) = true,
      (IntKind.wrap IntKind.i64 ((0 : Int) + (0 : Int)) == (0 : Int)) = true,
      (IntKind.wrap IntKind.u64 ((0 : Int) + (0 : Int)) == (0 : Int)) = true,
      true = true]) (by kernel_rfl) (.cons (by rfl) (.cons (by rfl) (.cons (by rfl) (.cons (by rfl) (.cons (by rfl) (.cons (by rfl) (.cons (by rfl) (.cons (by rfl) (.cons (by rfl) (.cons (by rfl) (.cons (by rfl) (.cons (by rfl) (.cons (by rfl) (.cons (by rfl) (.cons (by rfl) (.cons (by rfl) (.cons (by rfl) (.cons (by rfl) (.cons (by rfl) (.cons (by rfl) (.cons (by rfl) (.cons (by rfl) .nil))))))))))))))))))))))
end Go.Proofs.Ytmhkbepnankopaa
