/- gate: stretches, as a callee. No condition. -/
import Derived.Test.YtoincoicgfnbiaaGaO
namespace Go.Proofs.Ytoincoicgfnbiaa
set_option linter.unusedVariables false
set_option linter.unusedSimpArgs false
open Go.RowKit E
def gStre : List SV → List Seg → Option (CS × List Prop)
  | [.nv (.one a), .nv (.one (.val (.int .i64 c))), .nv (.one (.val (.int .u64 t)))], mem => match srcOf mem 2 a with
    | some (n, g, _) => some (⟨[.nv (.one (.own 0)), iA c, .nv (.one (.val (.int .u64 (t))))], [.ro 2 n (gSl (oOf g) (sOf g))], .nv (.one (.clo 25 [.ptr 1 0, .ptr 3 0, .ptr 2 0])), [.ro 2 n (gSl (oOf g) (sOf g)), .box 22 [.own 0], .box 3 [.val (.int .i64 c)], .box 23 [.val (.int .u64 t)]]⟩, [])
    | none => none
  | _, _ => none
theorem spStre : SpOk Try.prog 22 (.lift gStre) := by
  intro args mem cs obl h ho
  unfold gStre at h
  split at h
  · split at h
    · simp only [Option.some.injEq, Prod.mk.injEq] at h
      obtain ⟨rfl, rfl⟩ := h
      exact st_f _ _ _ _ _
    · cases h
  · cases h
def Gg7 : List (FuncId × Sp) := (22, .lift gStre) :: Gg6
theorem Gg7_ok : CtxOk Try.prog Gg7 := ctx_cons (enter_of Try.func22 (by kernel_rfl) (by kernel_rfl)) spStre Gg6_ok
end Go.Proofs.Ytoincoicgfnbiaa
