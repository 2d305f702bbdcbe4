/- strings.Clone as a specification. No condition. -/
import Derived.Test.YtecgigeahkijaaaWsC
namespace Go.Proofs.Ytecgigeahkijaaa
set_option linter.unusedVariables false
set_option linter.unusedSimpArgs false
open Go.RowKit E
theorem spClone : SpOk Try.prog 43 (pureS gScl) := pureS_ok (by
  intro args r obl h ho
  unfold gScl at h
  split at h
  · rename_i s
    simp only [Option.some.injEq, Prod.mk.injEq] at h
    obtain ⟨rfl, rfl⟩ := h
    exact ⟨rfl, rfl, cl_f s ho.1⟩
  · cases h)
theorem ext_size {s : ByteArray} {a b : Nat} (h : s.size ≤ 140737488355328) : (s.extract a b).size ≤ 140737488355328 := by
  rw [ByteArray.size_extract]; omega
def GbD : List (FuncId × Sp) := (43, pureS gScl) :: GbC
theorem GbD_ok : CtxOk Try.prog GbD := ctx_cons (enter_of Try.func43 (by kernel_rfl) (by kernel_rfl)) spClone GbC_ok
end Go.Proofs.Ytecgigeahkijaaa
