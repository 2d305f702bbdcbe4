/- ops: lives. No condition. -/
import Derived.Test.YtecgigeahkijaaaOpG
namespace Go.Proofs.Ytecgigeahkijaaa
set_option linter.unusedVariables false
set_option linter.unusedSimpArgs false
open Go.RowKit E
def gLivesO : List SV → Option (SV × List Prop)
  | [] => some (bA true, [])
  | _ => none
theorem spLivesO : SpOk Try.prog 6 (pureS gLivesO) := pureS_ok (by
  intro args r obl h ho
  unfold gLivesO at h
  split at h
  · simp only [Option.some.injEq, Prod.mk.injEq] at h
    obtain ⟨rfl, rfl⟩ := h
    exact ⟨rfl, rfl, lvo⟩
  · cases h)
def GoC : List (FuncId × Sp) := (6, pureS gLivesO) :: GoB
theorem GoC_ok : CtxOk Try.prog GoC := ctx_cons (enter_of Try.func6 (by kernel_rfl) (by kernel_rfl)) spLivesO GoB_ok
end Go.Proofs.Ytecgigeahkijaaa
