/- The document's meters: least. No condition. -/
import Derived.Test.YtlmeemilikladaaMhB
namespace Go.Proofs.Ytlmeemilikladaa
set_option linter.unusedVariables false
set_option linter.unusedSimpArgs false
open Go.RowKit E

def leastV (x b : Int) : Int := if x < b then x else b
def gLeast : List SV → Option (SV × List Prop)
  | [.nv (.agg [.val (.int .u64 a0), .val (.int .u64 a1), .val (.int .u64 a2), .val (.int .u64 a3)]), .nv (.one (.val (.int .u64 b)))] =>
    some (uA (leastV (val4 a0 a1 a2 a3) b), [dig a0, dig a1, dig a2, dig a3, 0 ≤ b, b ≤ 18446744073709551615])
  | _ => none
theorem spLeast : SpOk Try.prog 29 (pureS gLeast) := pureS_ok (by
  intro args r obl h ho
  unfold gLeast at h
  split at h
  · rename_i a0 a1 a2 a3 b
    simp only [Option.some.injEq, Prod.mk.injEq] at h
    obtain ⟨rfl, rfl⟩ := h
    simp only [AllT, and_true] at ho
    obtain ⟨h0, h1, h2, h3, hb⟩ := ho
    refine ⟨rfl, rfl, ?_⟩
    have hd := dig_d (x := b) (by omega)
    have hv := val4_d hb.1
    by_cases e : val4 a0 a1 a2 a3 < b
    · rw [leastV, if_pos e]
      exact least_y a0 a1 a2 a3 b _ h0 h1 h2 h3 hb hd hv rfl e (by unfold capW; rw [if_pos (by omega)])
    · rw [leastV, if_neg e]
      exact least_n a0 a1 a2 a3 b _ h0 h1 h2 h3 hb hd hv rfl (by omega)
  · cases h)
def Gr1 : List (FuncId × Sp) := (29, pureS gLeast) :: Gr0
theorem Gr1_ok : CtxOk Try.prog Gr1 := ctx_cons (enter_of Try.func29 (by kernel_rfl) (by kernel_rfl)) spLeast Gr0_ok
end Go.Proofs.Ytlmeemilikladaa
