/- Sums, differences and products, capped: the program's and the document's. No condition. -/
import Derived.Test.YtkgkelfdmkginaaRkB
namespace Go.Proofs.Ytkgkelfdmkginaa
set_option linter.unusedVariables false
set_option linter.unusedSimpArgs false
open Go.RowKit E

def subU (x y : Int) : Int := if x < y then 0 else x - y
def gSSub : List SV → Option (SV × List Prop)
  | [.nv (.one (.val (.int .u64 x))), .nv (.one (.val (.int .u64 y)))] => some (uA (subU x y), [0 ≤ y, x ≤ 18446744073709551615])
  | _ => none
theorem spSSub : SpOk Try.prog 27 (pureS gSSub) := pureS_ok (by
  intro args r obl h ho
  unfold gSSub at h
  split at h
  · rename_i x y
    simp only [Option.some.injEq, Prod.mk.injEq] at h
    obtain ⟨rfl, rfl⟩ := h
    simp only [AllT, and_true] at ho
    refine ⟨rfl, rfl, ?_⟩
    by_cases e : x < y
    · rw [subU, if_pos e]; exact ssub_y x y e
    · rw [subU, if_neg e]; exact ssub_n x y ho.1 ho.2 (by omega)
  · cases h)
theorem spRSub : SpOk Try.prog 31 (pureS gSSub) := pureS_ok (by
  intro args r obl h ho
  unfold gSSub at h
  split at h
  · rename_i x y
    simp only [Option.some.injEq, Prod.mk.injEq] at h
    obtain ⟨rfl, rfl⟩ := h
    simp only [AllT, and_true] at ho
    refine ⟨rfl, rfl, ?_⟩
    by_cases e : x < y
    · rw [subU, if_pos e]; exact rsub_y x y e
    · rw [subU, if_neg e]; exact rsub_n x y ho.1 ho.2 (by omega)
  · cases h)
theorem spRAdd : SpOk Try.prog 30 (pureS gSAdd) := pureS_ok (by
  intro args r obl h ho
  unfold gSAdd at h
  split at h
  · rename_i x y
    simp only [Option.some.injEq, Prod.mk.injEq] at h
    obtain ⟨rfl, rfl⟩ := h
    simp only [AllT, and_true] at ho
    obtain ⟨h1, h2, h3, h4⟩ := ho
    exact ⟨rfl, rfl, radd x y ⟨h1, h2⟩ ⟨h3, h4⟩ (dig_d (by omega)) (dig_d (by omega)) (val4_d (by omega)) (val4_d (by omega)) (dig_d (by omega)) (val4_d (by omega))⟩
  · cases h)
theorem spRMulAdd : SpOk Try.prog 29 (pureS gSMulAdd) := pureS_ok (by
  intro args r obl h ho
  unfold gSMulAdd at h
  split at h
  · rename_i x y u
    simp only [Option.some.injEq, Prod.mk.injEq] at h
    obtain ⟨rfl, rfl⟩ := h
    simp only [AllT, and_true] at ho
    obtain ⟨h1, h2, h3, h4, h5, h6⟩ := ho
    have p0 : 0 ≤ y * u := Int.mul_nonneg h3 h5
    have p1 : y * u ≤ 340282366920938463426481119284349108225 := by
      have a := Int.mul_le_mul_of_nonneg_right h4 h5
      have b := Int.mul_le_mul_of_nonneg_left h6 (show (0 : Int) ≤ 18446744073709551615 by omega)
      omega
    rw [show capU (x + capU (y * u)) = capU (x + y * u) by unfold capU; (repeat' split) <;> omega]
    exact ⟨rfl, rfl, rmuladd x y u (y * u) ⟨h1, h2⟩ ⟨h3, h4⟩ ⟨h5, h6⟩ rfl p0 p1 (dig_d (by omega)) (dig_d (by omega)) (val4_d (by omega)) (val4_d (by omega)) (dig_d (by omega)) (val4_d (by omega))⟩
  · cases h)
def Grk : List (FuncId × Sp) := (27, pureS gSSub) :: (31, pureS gSSub) :: (30, pureS gSAdd) :: (29, pureS gSMulAdd) :: RkAG
theorem Grk_ok : CtxOk Try.prog Grk := ctx_cons (enter_of Try.func27 (by kernel_rfl) (by kernel_rfl)) spSSub <| ctx_cons (enter_of Try.func31 (by kernel_rfl) (by kernel_rfl)) spRSub <|
  ctx_cons (enter_of Try.func30 (by kernel_rfl) (by kernel_rfl)) spRAdd <| ctx_cons (enter_of Try.func29 (by kernel_rfl) (by kernel_rfl)) spRMulAdd RkAG_ok
end Go.Proofs.Ytkgkelfdmkginaa
