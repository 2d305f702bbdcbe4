/- wire: lives, and sizes, for the laws. No condition. -/
import Derived.Test.YtbgagcmdabpbgaaWsK
namespace Go.Proofs.Ytbgagcmdabpbgaa
set_option linter.unusedVariables false
set_option linter.unusedSimpArgs false
open Go.RowKit E
def gLives : List SV → Option (SV × List Prop)
  | [] => some (bA true, [])
  | _ => none
theorem spLives : SpOk Try.prog 8 (pureS gLives) := pureS_ok (by
  intro args r obl h ho
  unfold gLives at h
  split at h
  · simp only [Option.some.injEq, Prod.mk.injEq] at h
    obtain ⟨rfl, rfl⟩ := h
    exact ⟨rfl, rfl, lv⟩
  · cases h)
theorem size_one (f : Fl) : (putStr (fun _ => f) 1).size = (oneStr f).size := by
  unfold putStr oneStr
  have e : badZ (fun _ => f) 1 = ckZ f := by rw [badZ, badZ, if_pos rfl]
  have e2 : putAll (fun _ => f) 1 = putL f := by rw [putAll, putAll]; rfl
  rw [e, e2]
def GbH : List (FuncId × Sp) := (8, pureS gLives) :: GbG
theorem GbH_ok : CtxOk Try.prog GbH := ctx_cons (enter_of Try.func8 (by kernel_rfl) (by kernel_rfl)) spLives GbG_ok
end Go.Proofs.Ytbgagcmdabpbgaa
