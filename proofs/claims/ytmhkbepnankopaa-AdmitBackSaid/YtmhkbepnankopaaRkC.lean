/- Sums, differences and products, capped: the program's and the document's. No condition. -/
import Derived.Test.YtmhkbepnankopaaRkB
namespace Go.Proofs.Ytmhkbepnankopaa
set_option linter.unusedVariables false
set_option linter.unusedSimpArgs false
open Go.RowKit E

def subU (x y : Int) : Int := if x < y then 0 else x - y
def gSSub : List SV → Option (SV × List Prop)
  | [.nv (.one (.val (.int .u64 x))), .nv (.one (.val (.int .u64 y)))] => some (uA (subU x y), [0 ≤ y, x ≤ 18446744073709551615])
  | _ => none
theorem spRAdd : SpOk Try.prog 45 (pureS gSAdd) := pureS_ok (by
  intro args r obl h ho
  unfold gSAdd at h
  split at h
  · rename_i x y
    simp only [Option.some.injEq, Prod.mk.injEq] at h
    obtain ⟨rfl, rfl⟩ := h
    simp only [AllT, and_true] at ho
    obtain ⟨h1, h2, h3, h4⟩ := ho
    exact ⟨rfl, rfl, radd x y ⟨h1, h2⟩ ⟨h3, h4⟩ (dig_d (by omega)) (dig_d (by omega)) (val4_d (by omega)) (val4_d (by omega)) (dig_d (by omega)) (val4_d (by omega))⟩
  · cases h)
def Grk : List (FuncId × Sp) := (45, pureS gSAdd) :: RkAG
theorem Grk_ok : CtxOk Try.prog Grk := ctx_cons (enter_of Try.func45 (by kernel_rfl) (by kernel_rfl)) spRAdd RkAG_ok
end Go.Proofs.Ytmhkbepnankopaa
