/- MailNobody: the walk. No condition. -/
import Derived.Test.YtajdkbgbekdbmaaMlJ
namespace Go.Proofs.Ytajdkbgbekdbmaa
set_option linter.unusedVariables false
set_option linter.unusedSimpArgs false
open Go.RowKit E
theorem mnobody_walk (n : Int) (w : World) (w1 : (Lit.int .i64 n).wf = true) :
    Calls Try.prog 6 #[.int .i64 n] w fun e w' => e = .returned (.bool true) ∧ Ext w w' := by
  refine (nb35 n _ [.int .i64 n] w ⟨rfl, trivial⟩ (MemOk.empty w)).mono ?_
  rintro e w' ⟨u, rfl, hu, hx⟩
  exact ⟨by rw [show u = .bool true from hu], hx⟩
end Go.Proofs.Ytajdkbgbekdbmaa
