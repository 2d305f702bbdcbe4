/- Builders of texts: copyCheck as a specification. No condition. -/
import Derived.Test.YtecgigeahkijaaaWrB
namespace Go.Proofs.Ytecgigeahkijaaa
set_option linter.unusedVariables false
set_option linter.unusedSimpArgs false
open Go.RowKit E

theorem bytesR_strG (s : ByteArray) : bytesR s.size (strG s) := fun i hi => ⟨rfl, by
  show 0 ≤ byteAt s i ∧ byteAt s i < 256
  unfold byteAt
  have := ((s.data.toList.getD (i : Int).toNat 0)).toNat_lt
  omega⟩
theorem rowStr_strG (s : ByteArray) : rowStr s.size (strG s) = s := by
  apply ints_ext
  have h : byteR s.size (fun k => byteAt s k) := fun i hi => (bytesR_strG s i hi).2
  rw [show rowStr s.size (strG s) = bstr s.size (fun k => byteAt s k) from rfl, ints_bstr h]
  apply List.ext_getElem?
  intro i
  rw [List.getElem?_map]
  by_cases e : i < s.size
  · rw [List.getElem?_range e]
    have := byteAt_ints s i
    rw [List.getD_eq_getElem?_getD, List.getElem?_eq_getElem (by rw [ints_len]; exact e)] at this
    rw [List.getElem?_eq_getElem (by rw [ints_len]; exact e)]
    simpa using this
  · rw [List.getElem?_eq_none (by simpa using e), List.getElem?_eq_none (by rw [ints_len]; omega)]
    rfl
def bldAt (mem : List Seg) (h : Nat) : Option (Nat × (Nat → Int)) :=
  match mem[h]? with
  | some s => match boxCells s with
    | some [_, b] => match srcOf mem 1 b with
      | some (n, g, _) => some (n, fun k => cellN (g k))
      | none => none
    | _ => none
  | none => none
def gCc : List SV → List Seg → Option (CS × List Prop)
  | [.nv (.one (.ptr h 0))], mem => match bldAt mem h with
    | some (n, F) => some (⟨[.nv (.one (.ptr 0 0))], bldM n F, .any, bldM n F⟩, [])
    | none => none
  | _, _ => none
theorem spCc : SpOk Try.prog 28 (.lift gCc) := by
  intro args mem cs obl h ho
  unfold gCc at h
  split at h
  · split at h
    · simp only [Option.some.injEq, Prod.mk.injEq] at h
      obtain ⟨rfl, rfl⟩ := h
      exact fn_optr (cc_n _ _) (cc_p _ _)
    · cases h
  · cases h
def Gb1 : List (FuncId × Sp) := (28, .lift gCc) :: Gb0
theorem Gb1_ok : CtxOk Try.prog Gb1 := ctx_cons (enter_of Try.func28 (by kernel_rfl) (by kernel_rfl)) spCc Gb0_ok
end Go.Proofs.Ytecgigeahkijaaa
