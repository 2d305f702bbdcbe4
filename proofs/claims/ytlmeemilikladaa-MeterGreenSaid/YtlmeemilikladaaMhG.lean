/- Meters: a context for colours. No condition. -/
import Derived.Test.YtlmeemilikladaaMhE
namespace Go.Proofs.Ytlmeemilikladaa
set_option linter.unusedVariables false
set_option linter.unusedSimpArgs false
open Go.RowKit E

def Gq : List (FuncId × Sp) := (24, pureS gCk1) :: (25, pureS gCk2) :: Gr0
theorem Gq_ok : CtxOk Try.prog Gq := ctx_cons (enter_of Try.func24 (by kernel_rfl) (by kernel_rfl)) spCk1 <| ctx_cons (enter_of Try.func25 (by kernel_rfl) (by kernel_rfl)) spCk2 Gr0_ok
end Go.Proofs.Ytlmeemilikladaa
