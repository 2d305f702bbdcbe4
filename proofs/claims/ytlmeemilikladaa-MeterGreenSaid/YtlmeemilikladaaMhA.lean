/- The document's meters: May, as specifications. No condition. -/
import Derived.Test.YtlmeemilikladaaMgS
import Derived.Test.YtlmeemilikladaaWdT
namespace Go.Proofs.Ytlmeemilikladaa
set_option linter.unusedVariables false
set_option linter.unusedSimpArgs false
open Go.RowKit E

theorem spRMay1 : SpOk Try.prog 9 (pureS gCk1) := pureS_ok (by
  intro args r obl h ho
  unfold gCk1 at h
  split at h
  · simp only [Option.some.injEq, Prod.mk.injEq] at h
    obtain ⟨rfl, rfl⟩ := h
    simp only [AllT, and_true] at ho
    obtain ⟨h1, h2, h3, h4, h5⟩ := ho
    exact ⟨rfl, rfl, pure_of_calls (fun w => may1_any _ _ _ _ _ w h1 h2 h3 h4 h5) (vals_eq rfl rfl) rfl⟩
  · cases h)
theorem spRMay2 : SpOk Try.prog 10 (pureS gCk2) := pureS_ok (by
  intro args r obl h ho
  unfold gCk2 at h
  split at h
  · simp only [Option.some.injEq, Prod.mk.injEq] at h
    obtain ⟨rfl, rfl⟩ := h
    simp only [AllT, and_true] at ho
    obtain ⟨h1, h2, h3, h4, h5, h6⟩ := ho
    exact ⟨rfl, rfl, pure_of_calls (fun w => may2_any _ _ _ _ _ _ w h1 h2 h3 h4 h5 h6) (vals_eq rfl rfl) rfl⟩
  · cases h)
def Gr0 : List (FuncId × Sp) := (9, pureS gCk1) :: (10, pureS gCk2) :: Gw
theorem Gr0_ok : CtxOk Try.prog Gr0 := ctx_cons (enter_of Try.func9 (by kernel_rfl) (by kernel_rfl)) spRMay1 <| ctx_cons (enter_of Try.func10 (by kernel_rfl) (by kernel_rfl)) spRMay2 Gw_ok
end Go.Proofs.Ytlmeemilikladaa
