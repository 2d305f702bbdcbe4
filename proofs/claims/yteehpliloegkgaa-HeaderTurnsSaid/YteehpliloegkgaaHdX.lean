/- header: With, lives as specifications. No condition. -/
import Derived.Test.YteehpliloegkgaaHdW
namespace Go.Proofs.Yteehpliloegkgaa
set_option linter.unusedVariables false
set_option linter.unusedSimpArgs false
open Go.RowKit E
def withZ (s : ByteArray) (k : Nat) (c : Int) : ByteArray := (s.extract 0 k ++ strL [c]) ++ s.extract (k + 1) s.size
theorem rowStr1 {c : Int} (hc : 0 ≤ c ∧ c ≤ 255) : rowStr 1 (litG 1 [.val (.int .u8 c)]) = strL [c] := rfl
theorem pureWh (s : ByteArray) (k : Nat) (c : Int) (hk : k < s.size) (hz : s.size ≤ 70000) (hc : 0 ≤ c ∧ c ≤ 255) : PureOk Try.prog 11 [.nv (.one (.val (.string s))), .nv (.one (.val (.int .i64 (k : Nat)))), .nv (.one (.val (.int .u8 c)))] (.nv (.one (.val (.string (withZ s k c))))) := by
  have e1 : IntKind.wrap IntKind.i64 ((k : Int) + 1) = (k : Int) + 1 := w64 rfl (by omega)
  refine wh_f s _ k c hk hz e1 ?_ ?_ ?_
  · intro j hj
    match j, hj with
    | 0, _ => first | exact rfl | (simp [litG]; omega)
  · rw [rowStr1 hc, strL_size]; rfl
  · rw [rowStr1 hc, e1, show ((k : Int) + 1).toNat = k + 1 by omega]; rfl
def gWh : List SV → Option (SV × List Prop)
  | [.nv (.one (.val (.string s))), .nv (.one (.val (.int .i64 k))), .nv (.one (.val (.int .u8 c)))] => some (.nv (.one (.val (.string (withZ s k.toNat c)))), [0 ≤ k, k < s.size, s.size ≤ 70000, 0 ≤ c, c ≤ 255])
  | _ => none
theorem spWh : SpOk Try.prog 11 (pureS gWh) := pureS_ok (by
  intro args r obl h ho
  unfold gWh at h
  split at h
  · simp only [Option.some.injEq, Prod.mk.injEq] at h
    obtain ⟨rfl, rfl⟩ := h
    obtain ⟨o1, o2, o3, o4, o5, _⟩ := ho
    rename_i s k c
    obtain ⟨k, rfl⟩ := Int.eq_ofNat_of_zero_le o1
    exact ⟨rfl, rfl, pureWh _ _ _ (by omega) o3 ⟨o4, o5⟩⟩
  · cases h)
def gLv : List SV → Option (SV × List Prop)
  | [] => some (bA true, [])
  | _ => none
theorem spLv : SpOk Try.prog 7 (pureS gLv) := pureS_ok (by
  intro args r obl h ho
  unfold gLv at h
  split at h
  · simp only [Option.some.injEq, Prod.mk.injEq] at h
    obtain ⟨rfl, rfl⟩ := h
    exact ⟨rfl, rfl, lv_t⟩
  · cases h)
def GhK : List (FuncId × Sp) := (11, pureS gWh) :: (7, pureS gLv) :: GhJ
theorem GhK_ok : CtxOk Try.prog GhK := ctx_cons (enter_of Try.func11 (by kernel_rfl) (by kernel_rfl)) spWh <|
  ctx_cons (enter_of Try.func7 (by kernel_rfl) (by kernel_rfl)) spLv GhJ_ok
end Go.Proofs.Yteehpliloegkgaa
