/- OpsReads returns true. No condition. -/
import Derived.Test.YtecgigeahkijaaaOpI
import Derived.Test.YtecgigeahkijaaaEB
namespace Go.Proofs.Ytecgigeahkijaaa
set_option linter.unusedVariables false
set_option linter.unusedSimpArgs false
open Go.RowKit E
theorem oreads_walk (s : ByteArray) (w : World) (hz : s.size ≤ maxLen) :
    Calls Try.prog 3 #[.string s] w fun e w' => e = .returned (.bool true) ∧ Ext w w' := by
  have fin : LawOk Try.prog 3 [sA s] [] (bA true) := by
    by_cases h : 5000 < s.size
    · exact rd_l s h
    · exact rd_m s (by omega) (by have := numO_le s; omega)
  refine (fin _ [.string s] w ⟨rfl, trivial⟩ (MemOk.empty w)).mono ?_
  rintro e w' ⟨u, rfl, hu, hx⟩
  exact ⟨by rw [show u = .bool true from hu], hx⟩
end Go.Proofs.Ytecgigeahkijaaa
