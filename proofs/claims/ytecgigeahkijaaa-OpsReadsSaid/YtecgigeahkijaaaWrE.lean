/- Builders of texts: writing, and what was written; texts copied: specifications. No condition. -/
import Derived.Test.YtecgigeahkijaaaWrD
namespace Go.Proofs.Ytecgigeahkijaaa
set_option linter.unusedVariables false
set_option linter.unusedSimpArgs false
open Go.RowKit E

def gWb : List SV → List Seg → Option (CS × List Prop)
  | [.nv (.one (.ptr h 0)), .nv (.one (.val (.int .u8 c)))], mem => match bldAt mem h with
    | some (n, F) => some (⟨[.nv (.one (.ptr 0 0)), .nv (.one (.val (.int .u8 c)))], bldM n F, .nv (.one (.val .nilIface)), bldP (n + 1) (catF n F [c])⟩, [n + 1 ≤ 140737488355328])
    | none => none
  | _, _ => none
theorem spWb : SpOk Try.prog 36 (.lift gWb) := by
  intro args mem cs obl h ho
  unfold gWb at h
  split at h
  · split at h
    · simp only [Option.some.injEq, Prod.mk.injEq] at h
      obtain ⟨rfl, rfl⟩ := h
      exact wb_f _ _ _ ho.1
    · cases h
  · cases h
def gWs : List SV → List Seg → Option (CS × List Prop)
  | [.nv (.one (.ptr h 0)), .nv (.one (.val (.string s)))], mem => match bldAt mem h with
    | some (n, F) => some (⟨[.nv (.one (.ptr 0 0)), .nv (.one (.val (.string s)))], bldM n F, .tup [.one (.val (.int .i64 s.size)), .one (.val .nilIface)], bldP (n + s.size) (catF n F (ints s))⟩, [n + s.size ≤ 140737488355328])
    | none => none
  | _, _ => none
theorem spWs : SpOk Try.prog 20 (.lift gWs) := by
  intro args mem cs obl h ho
  unfold gWs at h
  split at h
  · split at h
    · simp only [Option.some.injEq, Prod.mk.injEq] at h
      obtain ⟨rfl, rfl⟩ := h
      exact ws_f _ _ _ ho.1
    · cases h
  · cases h
def gSt : List SV → List Seg → Option (CS × List Prop)
  | [.nv (.one (.ptr h 0))], mem => match mem[h]? with
    | some (.box _ [_, .val (.slice none 0 0)]) => some (⟨[.nv (.one (.ptr 0 0))], [.box 52 [.any, .val (.slice none 0 0)]], .nv (.one (.val (.string .empty))), [.gone]⟩, [])
    | _ => match bldAt mem h with
      | some (n, F) => some (⟨[.nv (.one (.ptr 0 0))], [.box 52 [.any, .own 1], .row 5 1 n (gB F)], .nv (.one (.val (.string (bstr n F)))), [.gone, .gone]⟩, [0 < n, byteR n F])
      | none => none
  | _, _ => none
theorem spSt : SpOk Try.prog 21 (.lift gSt) := by
  intro args mem cs obl h ho
  unfold gSt at h
  split at h
  · split at h
    · simp only [Option.some.injEq, Prod.mk.injEq] at h
      obtain ⟨rfl, rfl⟩ := h
      exact st_e
    · split at h
      · simp only [Option.some.injEq, Prod.mk.injEq] at h
        obtain ⟨rfl, rfl⟩ := h
        exact st_f _ _ ho.1 ho.2.1
      · cases h
  · cases h
def gScl : List SV → Option (SV × List Prop)
  | [.nv (.one (.val (.string s)))] => some (.nv (.one (.val (.string s))), [s.size ≤ 140737488355328])
  | _ => none
theorem spScl : SpOk Try.prog 44 (pureS gScl) := pureS_ok (by
  intro args r obl h ho
  unfold gScl at h
  split at h
  · rename_i s
    simp only [Option.some.injEq, Prod.mk.injEq] at h
    obtain ⟨rfl, rfl⟩ := h
    refine ⟨rfl, rfl, ?_⟩
    by_cases e : s.size = 0
    · have es : s = .empty := by
        apply ByteArray.ext
        exact Array.eq_empty_of_size_eq_zero e
      have := scl_e s e
      rw [← es] at this
      exact this
    · exact scl_s s e ho.1 (by omega)
  · cases h)
def Gb2 : List (FuncId × Sp) := (36, .lift gWb) :: (20, .lift gWs) :: (21, .lift gSt) :: (44, pureS gScl) :: Gb1
theorem Gb2_ok : CtxOk Try.prog Gb2 := ctx_cons (enter_of Try.func36 (by kernel_rfl) (by kernel_rfl)) spWb <|
  ctx_cons (enter_of Try.func20 (by kernel_rfl) (by kernel_rfl)) spWs <|
  ctx_cons (enter_of Try.func21 (by kernel_rfl) (by kernel_rfl)) spSt <|
  ctx_cons (enter_of Try.func44 (by kernel_rfl) (by kernel_rfl)) spScl Gb1_ok
end Go.Proofs.Ytecgigeahkijaaa
