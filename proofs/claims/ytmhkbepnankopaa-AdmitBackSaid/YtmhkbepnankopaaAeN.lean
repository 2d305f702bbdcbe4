/- admit: lives as a specification. No condition. -/
import Derived.Test.YtmhkbepnankopaaAeM
namespace Go.Proofs.Ytmhkbepnankopaa
set_option linter.unusedVariables false
set_option linter.unusedSimpArgs false
open Go.RowKit E
theorem tx1 {a : Int} (h : a ≠ 0) : (!(false == (a == 0))) = false := by
  rw [beq_eq_false_iff_ne.2 h]; rfl
theorem tx2 {a : Int} (h : a = 0) : (!(true == (a == 0))) = false := by
  rw [beq_iff_eq.2 h]; rfl
structure Ac17 where
  ki : Nat → Int
  id : Nat → Int
  n : Nat → Int
abbrev gA17 (A : Ac17) : Nat → List At := fun k => [.val (.int .u8 (A.ki k)), .val (.int .u32 (A.id k)), .val (.int .u64 (A.n k))]
def gLv17 : List SV → Option (SV × List Prop)
  | [] => some (bA true, [])
  | _ => none
theorem spLv17 : SpOk Try.prog 7 (pureS gLv17) := pureS_ok (by
  intro args r obl h ho
  unfold gLv17 at h
  split at h
  · simp only [Option.some.injEq, Prod.mk.injEq] at h
    obtain ⟨rfl, rfl⟩ := h
    exact ⟨rfl, rfl, lv_ad true (by decide +kernel)⟩
  · cases h)
def Gap : List (FuncId × Sp) := (7, pureS gLv17) :: Gao
theorem Gap_ok : CtxOk Try.prog Gap := ctx_cons (enter_of Try.func7 (by kernel_rfl) (by kernel_rfl)) spLv17 Gao_ok
def Gaq : List (FuncId × Sp) := (7, pureS gLv17) :: Gax
theorem Gaq_ok : CtxOk Try.prog Gaq := ctx_cons (enter_of Try.func7 (by kernel_rfl) (by kernel_rfl)) spLv17 Gax_ok
end Go.Proofs.Ytmhkbepnankopaa
