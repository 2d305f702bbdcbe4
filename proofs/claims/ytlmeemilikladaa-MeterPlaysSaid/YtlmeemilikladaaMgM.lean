/- Meters in plain numbers: ticks. And what Check says, for the symbolic run. No condition. -/
import Derived.Test.YtlmeemilikladaaSatS
import Derived.Test.YtlmeemilikladaaMtL
namespace Go.Proofs.Ytlmeemilikladaa
set_option linter.unusedVariables false
set_option linter.unusedSimpArgs false
open Go.RowKit E

abbrev oneN (r n f a b : Int) : NV := .agg [.val (.int .u64 r), .val (.int .u64 n), .val (.int .u64 f), .val (.int .u64 a), .val (.int .u64 b)]
abbrev twoN (s q n f a b : Int) : NV := .agg [.val (.int .u64 s), .val (.int .u64 q), .val (.int .u64 n), .val (.int .u64 f), .val (.int .u64 a), .val (.int .u64 b)]
def gCk1 : List SV → Option (SV × List Prop)
  | [.nv (.agg [.val (.int .u64 r), .val (.int .u64 n), .val (.int .u64 f), .val (.int .u64 a), .val (.int .u64 b)])] => some (iA (ckOne r n f a b), [0 ≤ r, 0 ≤ n, 0 ≤ f, 0 ≤ a, 0 ≤ b])
  | _ => none
def gCk2 : List SV → Option (SV × List Prop)
  | [.nv (.agg [.val (.int .u64 s), .val (.int .u64 q), .val (.int .u64 n), .val (.int .u64 f), .val (.int .u64 a), .val (.int .u64 b)])] => some (iA (ckTwo s q n f a b), [0 ≤ s, 0 ≤ q, 0 ≤ n, 0 ≤ f, 0 ≤ a, 0 ≤ b])
  | _ => none
theorem spCk1 : SpOk Try.prog 24 (pureS gCk1) := pureS_ok (by
  intro args r obl h ho
  unfold gCk1 at h
  split at h
  · simp only [Option.some.injEq, Prod.mk.injEq] at h
    obtain ⟨rfl, rfl⟩ := h
    simp only [AllT, and_true] at ho
    obtain ⟨h1, h2, h3, h4, h5⟩ := ho
    exact ⟨rfl, rfl, pure_of_calls (fun w => check1_any _ _ _ _ _ w h1 h2 h3 h4 h5) (vals_eq rfl rfl) rfl⟩
  · cases h)
theorem spCk2 : SpOk Try.prog 25 (pureS gCk2) := pureS_ok (by
  intro args r obl h ho
  unfold gCk2 at h
  split at h
  · simp only [Option.some.injEq, Prod.mk.injEq] at h
    obtain ⟨rfl, rfl⟩ := h
    simp only [AllT, and_true] at ho
    obtain ⟨h1, h2, h3, h4, h5, h6⟩ := ho
    exact ⟨rfl, rfl, pure_of_calls (fun w => check2_any _ _ _ _ _ _ w h1 h2 h3 h4 h5 h6) (vals_eq rfl rfl) rfl⟩
  · cases h)
def Gm : List (FuncId × Sp) := (24, pureS gCk1) :: (25, pureS gCk2) :: Gs
theorem Gm_ok : CtxOk Try.prog Gm := ctx_cons (enter_of Try.func24 (by kernel_rfl) (by kernel_rfl)) spCk1 <| ctx_cons (enter_of Try.func25 (by kernel_rfl) (by kernel_rfl)) spCk2 Gs_ok

/-- Tokens that come, up to a bound. -/
def upTo (a bound come : Int) : Int := if a + come ≤ bound then a + come else bound
def over (a bound come : Int) : Int := if a + come ≤ bound then 0 else a + come - bound
end Go.Proofs.Ytlmeemilikladaa
