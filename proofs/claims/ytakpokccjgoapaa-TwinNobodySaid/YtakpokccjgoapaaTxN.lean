/- TwinNobody returns true. No condition. -/
import Derived.Test.YtakpokccjgoapaaTxA
namespace Go.Proofs.Ytakpokccjgoapaa
set_option linter.unusedVariables false
set_option linter.unusedSimpArgs false
open Go.RowKit E
theorem tnobody_walk (r x : Int) (w : World) (w1 : (Lit.int .u64 r).wf = true) (w2 : (Lit.int .i64 x).wf = true) :
    Calls Try.prog 6 #[.int .u64 r, .int .i64 x] w fun e w' => e = .returned (.bool true) ∧ Ext w w' := by
  refine (nobody r x [.int .u64 r, .int .i64 x] w ⟨rfl, rfl, trivial⟩).mono ?_
  rintro e w' ⟨u, rfl, hu, hx⟩
  exact ⟨by rw [show u = .bool true from hu], hx⟩
end Go.Proofs.Ytakpokccjgoapaa
