/- gate: the laws' helpers. No condition. -/
import Derived.Test.YtoincoicgfnbiaaGaV
namespace Go.Proofs.Ytoincoicgfnbiaa
set_option linter.unusedVariables false
set_option linter.unusedSimpArgs false
open Go.RowKit E
theorem sOf_g (O S : Nat → Int) : sOf (gSl O S) = S := rfl
theorem oOf_g (O S : Nat → Int) : oOf (gSl O S) = O := rfl
theorem fnLmay (n : Nat) (c : Int) (O S : Nat → Int) (hn : n ≤ 9223372036854775807) : FnOk Try.prog 11 [.nv (.one (.own 0)), iA c] [.ro 2 n (gSl O S)] (bA (gmB n S c)) [.gone] := by
  unfold gmB
  cases hk : okN n S with
  | false => exact ml_n n c O S hn hk
  | true =>
    by_cases h0 : c ≥ 0
    · refine ml_h n c O S hn hk h0 _ ?_
      rw [Bool.true_and]
      exact decide_eq_decide.2 ⟨fun h => ⟨h0, h⟩, fun h => h.2⟩
    · rw [decide_eq_false (fun h => h0 h.1)]
      exact ml_l n c O S hn hk h0
def gLmay : List SV → List Seg → Option (CS × List Prop)
  | [.nv (.one a), .nv (.one (.val (.int .i64 c)))], mem => match srcOf mem 2 a with
    | some (n, g, _) => some (⟨[.nv (.one (.own 0)), iA c], [.ro 2 n (gSl (oOf g) (sOf g))], bA (gmB n (sOf g) c), [.gone]⟩, [n ≤ 9223372036854775807])
    | none => none
  | _, _ => none
theorem spLmay : SpOk Try.prog 11 (.lift gLmay) := by
  intro args mem cs obl h ho
  unfold gLmay at h
  split at h
  · split at h
    · simp only [Option.some.injEq, Prod.mk.injEq] at h
      obtain ⟨rfl, rfl⟩ := h
      exact fnLmay _ _ _ _ ho.1
    · cases h
  · cases h
def gLives : List SV → Option (SV × List Prop)
  | [] => some (bA true, [])
  | _ => none
theorem spLives : SpOk Try.prog 6 (pureS gLives) := pureS_ok (by
  intro args r obl h ho
  unfold gLives at h
  split at h
  · simp only [Option.some.injEq, Prod.mk.injEq] at h
    obtain ⟨rfl, rfl⟩ := h
    exact ⟨rfl, rfl, lv_f⟩
  · cases h)
def Gg9 : List (FuncId × Sp) := (11, .lift gLmay) :: (6, pureS gLives) :: Gg8
theorem Gg9_ok : CtxOk Try.prog Gg9 := ctx_cons (enter_of Try.func11 (by kernel_rfl) (by kernel_rfl)) spLmay <|
  ctx_cons (enter_of Try.func6 (by kernel_rfl) (by kernel_rfl)) spLives Gg8_ok
end Go.Proofs.Ytoincoicgfnbiaa
