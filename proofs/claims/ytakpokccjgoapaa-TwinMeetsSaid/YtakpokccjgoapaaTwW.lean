/- Twins: the example, as a specification. No condition. -/
import Derived.Test.YtakpokccjgoapaaTwV
namespace Go.Proofs.Ytakpokccjgoapaa
set_option linter.unusedVariables false
set_option linter.unusedSimpArgs false
open Go.RowKit E
def gLives : List SV → Option (SV × List Prop)
  | [] => some (bA true, [])
  | _ => none
theorem spLives : SpOk Try.prog 9 (pureS gLives) := pureS_ok (by
  intro args r obl h ho
  unfold gLives at h
  split at h
  · simp only [Option.some.injEq, Prod.mk.injEq] at h
    obtain ⟨rfl, rfl⟩ := h
    exact ⟨rfl, rfl, lives_any⟩
  · cases h)
def Gl7 : List (FuncId × Sp) := (9, pureS gLives) :: Gt7
theorem Gl7_ok : CtxOk Try.prog Gl7 := ctx_cons (enter_of Try.func9 (by kernel_rfl) (by kernel_rfl)) spLives Gt7_ok
def Gln : List (FuncId × Sp) := (9, pureS gLives) :: Gtn
theorem Gln_ok : CtxOk Try.prog Gln := ctx_cons (enter_of Try.func9 (by kernel_rfl) (by kernel_rfl)) spLives Gtn_ok
def Glx : List (FuncId × Sp) := (9, pureS gLives) :: Gtx
theorem Glx_ok : CtxOk Try.prog Glx := ctx_cons (enter_of Try.func9 (by kernel_rfl) (by kernel_rfl)) spLives Gtx_ok
end Go.Proofs.Ytakpokccjgoapaa
