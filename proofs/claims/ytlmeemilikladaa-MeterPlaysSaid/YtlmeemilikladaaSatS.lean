/- sat.Add, sat.Mul: what each gives. No condition. -/
import Derived.Test.YtlmeemilikladaaSat1
namespace Go.Proofs.Ytlmeemilikladaa
set_option linter.unusedVariables false
set_option linter.unusedSimpArgs false
open Go.RowKit E

def capU (x : Int) : Int := if x ≤ 18446744073709551615 then x else 18446744073709551615
theorem capU_bd {x : Int} (h : 0 ≤ x) : 0 ≤ capU x ∧ capU x ≤ 18446744073709551615 := by unfold capU; split <;> omega
def gSAdd : List SV → Option (SV × List Prop)
  | [.nv (.one (.val (.int .u64 x))), .nv (.one (.val (.int .u64 y)))] => some (uA (capU (x + y)), [0 ≤ x, x ≤ 18446744073709551615, 0 ≤ y, y ≤ 18446744073709551615])
  | _ => none
def gSMul : List SV → Option (SV × List Prop)
  | [.nv (.one (.val (.int .u64 x))), .nv (.one (.val (.int .u64 y)))] => some (uA (capU (x * y)), [0 ≤ x, x ≤ 18446744073709551615, 0 ≤ y, y ≤ 18446744073709551615])
  | _ => none
theorem spSAdd : SpOk Try.prog 31 (pureS gSAdd) := pureS_ok (by
  intro args r obl h ho
  unfold gSAdd at h
  split at h
  · rename_i x y
    simp only [Option.some.injEq, Prod.mk.injEq] at h
    obtain ⟨rfl, rfl⟩ := h
    simp only [AllT, and_true] at ho
    refine ⟨rfl, rfl, ?_⟩
    by_cases e : x + y ≤ 18446744073709551615
    · rw [capU, if_pos e]; exact sadd_y x y ⟨ho.1, ho.2.1⟩ ho.2.2 e
    · rw [capU, if_neg e]; exact sadd_n x y ⟨ho.1, ho.2.1⟩ ho.2.2 (by omega)
  · cases h)
theorem spSMul : SpOk Try.prog 32 (pureS gSMul) := pureS_ok (by
  intro args r obl h ho
  unfold gSMul at h
  split at h
  · rename_i x y
    simp only [Option.some.injEq, Prod.mk.injEq] at h
    obtain ⟨rfl, rfl⟩ := h
    simp only [AllT, and_true] at ho
    refine ⟨rfl, rfl, ?_⟩
    by_cases e : x * y ≤ 18446744073709551615
    · rw [capU, if_pos e]; exact smul_y x y ⟨ho.1, ho.2.1⟩ ho.2.2 (Int.mul_nonneg ho.1 ho.2.2.1) e
    · rw [capU, if_neg e]; exact smul_n x y ⟨ho.1, ho.2.1⟩ ho.2.2 (by omega)
  · cases h)
def Gs : List (FuncId × Sp) := (31, pureS gSAdd) :: (32, pureS gSMul) :: Gb
theorem Gs_ok : CtxOk Try.prog Gs := ctx_cons (enter_of Try.func31 (by kernel_rfl) (by kernel_rfl)) spSAdd <| ctx_cons (enter_of Try.func32 (by kernel_rfl) (by kernel_rfl)) spSMul Gb_ok
end Go.Proofs.Ytlmeemilikladaa
