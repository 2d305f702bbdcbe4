/- wire: Take of no kinds at all. No condition. -/
import Derived.Test.YtecgigeahkijaaaOpA
namespace Go.Proofs.Ytecgigeahkijaaa
set_option linter.unusedVariables false
set_option linter.unusedSimpArgs false
open Go.RowKit E
theorem fn_drop0 {P : Program} {f : FuncId} {args : List SV} {mem : List Seg} {r : SV} {s : Seg} {m' : List Seg} (h : FnOk P f args mem r (s :: m')) : FnOk P f args mem r (.gone :: m') := by
  intro env w0 w S vals hv hm
  refine (h env w0 w S vals hv hm).mono ?_
  rintro e w' ⟨v, env', rfl, h1, h2, h3, h4, h5⟩
  exact ⟨v, env', rfl, h1, h2, h3, h4, by simpa using h5.drop 0⟩
def gTake2 : List SV → List Seg → Option (CS × List Prop)
  | [.nv (.one (.val (.string s))), .nv (.one (.val (.slice none 0 0)))], mem => some (⟨[sA s, .nv (.one (.own 0))], [.ro 1 0 (gK (kOf (fun _ => [])))], .tup [.one (.own 1), .one (.val (.int .i64 0)), .one (.val (.int .i64 0))], [.gone, .row 47 3 0 (gF (fldT s (kOf (fun _ => []))))]⟩, [s.size ≤ 140737488355328])
  | a, mem => gTake a mem
theorem spTake2 : SpOk Try.prog 24 (.lift gTake2) := by
  intro args mem cs obl h ho
  unfold gTake2 at h
  split at h
  · simp only [Option.some.injEq, Prod.mk.injEq] at h
    obtain ⟨rfl, rfl⟩ := h
    exact fn_drop0 (fnTake _ 0 (kOf (fun _ => [])) ho.1 (by decide))
  · exact spTake _ _ _ _ h ho
theorem spRTake2 : SpOk Try.prog 16 (.lift gTake2) := by
  intro args mem cs obl h ho
  unfold gTake2 at h
  split at h
  · simp only [Option.some.injEq, Prod.mk.injEq] at h
    obtain ⟨rfl, rfl⟩ := h
    exact fn_drop0 (fnRTake _ 0 (kOf (fun _ => [])) ho.1 (by decide))
  · exact spRTake _ _ _ _ h ho
def GbI : List (FuncId × Sp) := (24, .lift gTake2) :: (16, .lift gTake2) :: GbG
theorem GbI_ok : CtxOk Try.prog GbI := ctx_cons (enter_of Try.func24 (by kernel_rfl) (by kernel_rfl)) spTake2 <|
  ctx_cons (enter_of Try.func16 (by kernel_rfl) (by kernel_rfl)) spRTake2 GbG_ok
end Go.Proofs.Ytecgigeahkijaaa
