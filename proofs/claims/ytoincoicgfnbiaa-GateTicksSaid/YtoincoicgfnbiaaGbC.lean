/- gate: whether a tick is open, as a callee. No condition. -/
import Derived.Test.YtoincoicgfnbiaaGbB
namespace Go.Proofs.Ytoincoicgfnbiaa
set_option linter.unusedVariables false
set_option linter.unusedSimpArgs false
open Go.RowKit E
def gIsT : List SV → List Seg → Option (CS × List Prop)
  | [.nv (.one (.val (.int .i64 t))), .nv (.one (.ptr h1 0)), .nv (.one (.ptr h2 0))], mem => match mem[h1]?, mem[h2]? with
    | some (.box T1 [.own h3]), some (.box T2 [.val (.int .i64 c)]) => match srcOf mem 1 (.own h3) with
      | some (n, g, _) => some (⟨[iA t, .nv (.one (.ptr 0 0)), .nv (.one (.ptr 1 0))], [.robox 43 [.own 2], .robox 3 [.val (.int .i64 c)], .ro 1 n (gB8 (bOf g))], bA (opB (bOf g (Int.tmod t (n : Int)).toNat) c), [.gone, .gone, .gone]⟩, [0 ≤ t, 0 < n, 0 ≤ c])
      | none => none
    | _, _ => none
  | _, _ => none
theorem isT_ok (n : Nat) (t c : Int) (G : Nat → Int) (h1 : 0 ≤ t) (h2 : 0 < n) (h3 : 0 ≤ c) : FnOk Try.prog 19 [iA t, .nv (.one (.ptr 0 0)), .nv (.one (.ptr 1 0))] [.robox 43 [.own 2], .robox 3 [.val (.int .i64 c)], .ro 1 n (gB8 G)] (bA (opB (G (Int.tmod t (n : Int)).toNat) c)) [.gone, .gone, .gone] := by
  have e1 := Int.tmod_eq_emod_of_nonneg (b := (n : Int)) h1
  have e2 := Int.emod_nonneg t (show (n : Int) ≠ 0 by omega)
  have e3 := Int.emod_lt_of_pos t (show (0 : Int) < n by omega)
  exact it_f n (Int.tmod t n).toNat t c G _ (by omega) (by omega) h3 rfl
theorem spIsT : SpOk Try.prog 19 (.lift gIsT) := by
  intro args mem cs obl h ho
  unfold gIsT at h
  split at h
  · split at h
    · split at h
      · simp only [Option.some.injEq, Prod.mk.injEq] at h
        obtain ⟨rfl, rfl⟩ := h
        exact isT_ok _ _ _ _ ho.1 ho.2.1 ho.2.2.1
      · cases h
    · cases h
  · cases h
theorem bOf_g (G : Nat → Int) : bOf (gB8 G) = G := rfl
theorem grow_l {P U : Nat → Int} {i : Nat} (hs : IntKind.wrap .u64 (IntKind.wrap .u64 (Int.tmod (P i) 10) + 1) = spF P i) : True := trivial
def GgA : List (FuncId × Sp) := (19, .lift gIsT) :: Gg9
theorem GgA_ok : CtxOk Try.prog GgA := ctx_cons (enter_of Try.func19 (by kernel_rfl) (by kernel_rfl)) spIsT Gg9_ok
end Go.Proofs.Ytoincoicgfnbiaa
