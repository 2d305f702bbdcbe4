/- AdmitNobody: the walk. No condition. -/
import Derived.Test.YtmhkbepnankopaaAeS
namespace Go.Proofs.Ytmhkbepnankopaa
set_option linter.unusedVariables false
set_option linter.unusedSimpArgs false
open Go.RowKit E
theorem nobody17_walk (id k : Int) (w : World) (w1 : (Lit.int .u32 id).wf = true) (w2 : (Lit.int .u64 k).wf = true) :
    Calls Try.prog 6 #[.int .u32 id, .int .u64 k] w fun e w' => e = .returned (.bool true) ∧ Ext w w' := by
  refine (nb17 id k _ [.int .u32 id, .int .u64 k] w ⟨rfl, rfl, trivial⟩ (MemOk.empty w)).mono ?_
  rintro e w' ⟨u, rfl, hu, hx⟩
  exact ⟨by rw [show u = .bool true from hu], hx⟩
end Go.Proofs.Ytmhkbepnankopaa
