/- sat.MulAdd for the symbolic run. No condition. -/
import Derived.Test.YtlmeemilikladaaMgA
namespace Go.Proofs.Ytlmeemilikladaa
set_option linter.unusedVariables false
set_option linter.unusedSimpArgs false
open Go.RowKit E

theorem fin_min {b f e z y : Int} (hb : 0 ≤ b ∧ b ≤ f) (hf : f ≤ 18446744073709551615) (he : IntKind.wrap IntKind.u64 (f - b) = e) (he2 : e = f - b) (hz : z = y) (h0 : 0 ≤ y) :
    IntKind.wrap IntKind.u64 (b + List.foldl (fun x y => if y < x then y else x) z [IntKind.wrap IntKind.u64 (f - b)]) = b + if e < y then e else y := by
  subst hz
  rw [he]
  show IntKind.wrap IntKind.u64 (b + if e < z then e else z) = _
  refine wU64 rfl ?_
  split <;> omega
def gSMulAdd : List SV → Option (SV × List Prop)
  | [.nv (.one (.val (.int .u64 a))), .nv (.one (.val (.int .u64 b))), .nv (.one (.val (.int .u64 c)))] =>
    some (uA (capU (a + capU (b * c))), [0 ≤ a, a ≤ 18446744073709551615, 0 ≤ b, b ≤ 18446744073709551615, 0 ≤ c, c ≤ 18446744073709551615])
  | _ => none
theorem spSMulAdd : SpOk Try.prog 28 (pureS gSMulAdd) := pureS_ok (by
  intro args r obl h ho
  unfold gSMulAdd at h
  split at h
  · rename_i a b c
    simp only [Option.some.injEq, Prod.mk.injEq] at h
    obtain ⟨rfl, rfl⟩ := h
    simp only [AllT, and_true] at ho
    obtain ⟨h1, h2, h3, h4, h5⟩ := ho
    exact ⟨rfl, rfl, smuladd a b c _ ⟨h1, h2⟩ ⟨h3, h4⟩ h5 rfl (capU_bd (Int.mul_nonneg h3 h5.1))⟩
  · cases h)
def Gm2 : List (FuncId × Sp) := (28, pureS gSMulAdd) :: Gm
theorem Gm2_ok : CtxOk Try.prog Gm2 := ctx_cons (enter_of Try.func28 (by kernel_rfl) (by kernel_rfl)) spSMulAdd Gm_ok
end Go.Proofs.Ytlmeemilikladaa
