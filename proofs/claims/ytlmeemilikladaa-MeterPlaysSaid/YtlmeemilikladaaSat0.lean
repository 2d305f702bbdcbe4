/- The functions of the machine and of math/bits, as a context. No condition. -/
import Derived.Test.YtlmeemilikladaaBmS
namespace Go.Proofs.Ytlmeemilikladaa
set_option linter.unusedVariables false
set_option linter.unusedSimpArgs false
open Go.RowKit E

def Gb : List (FuncId × Sp) := [(26, pureS gMul64), (34, pureS gAdd64), (27, pureS gSub64)]
theorem Gb_ok : CtxOk Try.prog Gb := ctx_cons (enter_of Try.func26 (by kernel_rfl) (by kernel_rfl)) spMul64 <| ctx_ext exAdd64 <| ctx_ext exSub64 G0_ok
end Go.Proofs.Ytlmeemilikladaa
