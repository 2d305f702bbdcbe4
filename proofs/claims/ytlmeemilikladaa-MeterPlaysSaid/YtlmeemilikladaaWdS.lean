/- Wide numbers: Of, Plus, Minus, Cap, Less as specifications. No condition. -/
import Derived.Test.YtlmeemilikladaaWd2
namespace Go.Proofs.Ytlmeemilikladaa
set_option linter.unusedVariables false
set_option linter.unusedSimpArgs false
open Go.RowKit E

def gOf : List SV → Option (SV × List Prop)
  | [.nv (.one (.val (.int .u64 a)))] => some (.nv (wD a), [0 ≤ a, a ≤ 18446744073709551615])
  | _ => none
def gPlus : List SV → Option (SV × List Prop)
  | [.nv (.agg [.val (.int .u64 a0), .val (.int .u64 a1), .val (.int .u64 a2), .val (.int .u64 a3)]), .nv (.agg [.val (.int .u64 b0), .val (.int .u64 b1), .val (.int .u64 b2), .val (.int .u64 b3)])] =>
    some (.nv (wD (val4 a0 a1 a2 a3 + val4 b0 b1 b2 b3)), [dig a0, dig a1, dig a2, dig a3, dig b0, dig b1, dig b2, dig b3, val4 a0 a1 a2 a3 + val4 b0 b1 b2 b3 ≤ 340282366920938463463374607431768211455])
  | _ => none
def gMinus : List SV → Option (SV × List Prop)
  | [.nv (.agg [.val (.int .u64 a0), .val (.int .u64 a1), .val (.int .u64 a2), .val (.int .u64 a3)]), .nv (.agg [.val (.int .u64 b0), .val (.int .u64 b1), .val (.int .u64 b2), .val (.int .u64 b3)])] =>
    some (.nv (wD (val4 a0 a1 a2 a3 - val4 b0 b1 b2 b3)), [dig a0, dig a1, dig a2, dig a3, dig b0, dig b1, dig b2, dig b3, val4 b0 b1 b2 b3 ≤ val4 a0 a1 a2 a3])
  | _ => none
def gCap : List SV → Option (SV × List Prop)
  | [.nv (.agg [.val (.int .u64 a0), .val (.int .u64 a1), .val (.int .u64 a2), .val (.int .u64 a3)])] => some (uA (capW (val4 a0 a1 a2 a3)), [dig a0, dig a1, dig a2, dig a3])
  | _ => none
def gLess : List SV → Option (SV × List Prop)
  | [.nv (.agg [.val (.int .u64 a0), .val (.int .u64 a1), .val (.int .u64 a2), .val (.int .u64 a3)]), .nv (.agg [.val (.int .u64 b0), .val (.int .u64 b1), .val (.int .u64 b2), .val (.int .u64 b3)])] =>
    some (bA (decide (val4 a0 a1 a2 a3 < val4 b0 b1 b2 b3)), [dig a0, dig a1, dig a2, dig a3, dig b0, dig b1, dig b2, dig b3])
  | _ => none
theorem spOf : SpOk Try.prog 20 (pureS gOf) := pureS_ok (by
  intro args r obl h ho
  unfold gOf at h
  split at h
  · simp only [Option.some.injEq, Prod.mk.injEq] at h
    obtain ⟨rfl, rfl⟩ := h
    simp only [AllT, and_true] at ho
    exact ⟨rfl, rfl, of_w _ ho⟩
  · cases h)
theorem spPlus : SpOk Try.prog 21 (pureS gPlus) := pureS_ok (by
  intro args r obl h ho
  unfold gPlus at h
  split at h
  · simp only [Option.some.injEq, Prod.mk.injEq] at h
    obtain ⟨rfl, rfl⟩ := h
    simp only [AllT, and_true] at ho
    obtain ⟨h0, h1, h2, h3, g0, g1, g2, g3, hs⟩ := ho
    exact ⟨rfl, rfl, plus_w _ _ _ _ _ _ _ _ h0 h1 h2 h3 g0 g1 g2 g3 hs⟩
  · cases h)
theorem spMinus : SpOk Try.prog 30 (pureS gMinus) := pureS_ok (by
  intro args r obl h ho
  unfold gMinus at h
  split at h
  · simp only [Option.some.injEq, Prod.mk.injEq] at h
    obtain ⟨rfl, rfl⟩ := h
    simp only [AllT, and_true] at ho
    obtain ⟨h0, h1, h2, h3, g0, g1, g2, g3, hs⟩ := ho
    exact ⟨rfl, rfl, minus_w _ _ _ _ _ _ _ _ h0 h1 h2 h3 g0 g1 g2 g3 hs⟩
  · cases h)
theorem spCap : SpOk Try.prog 33 (pureS gCap) := pureS_ok (by
  intro args r obl h ho
  unfold gCap at h
  split at h
  · simp only [Option.some.injEq, Prod.mk.injEq] at h
    obtain ⟨rfl, rfl⟩ := h
    simp only [AllT, and_true] at ho
    obtain ⟨h0, h1, h2, h3⟩ := ho
    exact ⟨rfl, rfl, cap_w _ _ _ _ h0 h1 h2 h3⟩
  · cases h)
theorem spLess : SpOk Try.prog 23 (pureS gLess) := pureS_ok (by
  intro args r obl h ho
  unfold gLess at h
  split at h
  · simp only [Option.some.injEq, Prod.mk.injEq] at h
    obtain ⟨rfl, rfl⟩ := h
    simp only [AllT, and_true] at ho
    obtain ⟨h0, h1, h2, h3, g0, g1, g2, g3⟩ := ho
    exact ⟨rfl, rfl, less_w _ _ _ _ _ _ _ _ h0 h1 h2 h3 g0 g1 g2 g3⟩
  · cases h)
def Gw0 : List (FuncId × Sp) := (20, pureS gOf) :: (21, pureS gPlus) :: (30, pureS gMinus) :: (33, pureS gCap) :: (23, pureS gLess) :: G0
theorem Gw0_ok : CtxOk Try.prog Gw0 := ctx_cons (enter_of Try.func20 (by kernel_rfl) (by kernel_rfl)) spOf <| ctx_cons (enter_of Try.func21 (by kernel_rfl) (by kernel_rfl)) spPlus <|
  ctx_cons (enter_of Try.func30 (by kernel_rfl) (by kernel_rfl)) spMinus <| ctx_cons (enter_of Try.func33 (by kernel_rfl) (by kernel_rfl)) spCap <|
  ctx_cons (enter_of Try.func23 (by kernel_rfl) (by kernel_rfl)) spLess G0_ok
end Go.Proofs.Ytlmeemilikladaa
