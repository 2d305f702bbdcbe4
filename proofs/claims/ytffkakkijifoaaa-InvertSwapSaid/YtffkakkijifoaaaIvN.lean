/- invert: Longest as a specification. No condition. -/
import Derived.Test.YtffkakkijifoaaaIvM
namespace Go.Proofs.Ytffkakkijifoaaa
set_option linter.unusedVariables false
set_option linter.unusedSimpArgs false
open Go.RowKit E
theorem fnLongP (N : Nat) (L : Nat → Int) (hN : N ≤ 1000) : FnOk Try.prog 14 [.nv (.one (.own 0))] [roU N L] (iA ((enS L N).m : Nat)) [.gone] := by
  refine lp_f N L hN _ (enS L N).e ?_
  refine loop_ok (α := Nat) (fun i => mkSt 32 [(3, .nv (.one (.ptr 1 0))), (7, .nv (.one (.own 0))), (8, iA N), (9, iA i)] [roU N L, .box 22 [.own 2], .row 24 1 (enS L i).m (gU (enS L i).e)]) (fun i => i ≤ N) (fun i => N - i) (by simp) ?_ (x := 0) (Nat.zero_le _)
  intro i hi
  by_cases q : i < N
  · refine .inl ⟨i + 1, q, (show N - (i + 1) < N - i by omega), ?_⟩
    have hm := enS_le L i
    have hle : sea (enS L i).e (L i) (enS L i).m ≤ (enS L i).m := bsr_le _ _ _ _ _ (Nat.zero_le _)
    by_cases hs : sea (enS L i).e (L i) (enS L i).m = (enS L i).m
    · have e : enS L (i + 1) = ⟨(enS L i).m + 1, putF (enS L i).e (enS L i).m (L i)⟩ := by
        simp only [enS]; rw [if_pos hs, hs]
      rw [e]
      exact lp_a N L hN i _ _ q hm hs
    · have e : enS L (i + 1) = ⟨(enS L i).m, putF (enS L i).e (sea (enS L i).e (L i) (enS L i).m) (L i)⟩ := by
        simp only [enS]; rw [if_neg hs]
      rw [e]
      exact lp_r N L hN i _ _ _ q hm rfl (by omega)
  · have e : i = N := Nat.le_antisymm hi (by omega)
    subst e
    exact .inr (lp_e _ L hN _ _)
def gLongP : List SV → List Seg → Option (CS × List Prop)
  | [.nv (.one a)], mem => match srcOf mem 1 a with
    | some (n, g, _) => some (⟨[.nv (.one (.own 0))], [roU n (cF g)], iA ((enS (cF g) n).m : Nat), [.gone]⟩, [n ≤ 1000])
    | none => none
  | _, _ => none
theorem spLongP : SpOk Try.prog 14 (.lift gLongP) := by
  intro args mem cs obl h ho
  unfold gLongP at h
  split at h
  · split at h
    · simp only [Option.some.injEq, Prod.mk.injEq] at h
      obtain ⟨rfl, rfl⟩ := h
      exact fnLongP _ _ ho.1
    · cases h
  · cases h
def Giv3 : List (FuncId × Sp) := (14, .lift gLongP) :: Giv2
theorem Giv3_ok : CtxOk Try.prog Giv3 := ctx_cons (enter_of Try.func14 (by kernel_rfl) (by kernel_rfl)) spLongP Giv2_ok
end Go.Proofs.Ytffkakkijifoaaa
