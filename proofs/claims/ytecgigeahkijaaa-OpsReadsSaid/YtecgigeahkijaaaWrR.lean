/- wire: the document's bytes of numbers: as far as so many. No condition. -/
import Derived.Test.YtecgigeahkijaaaWrQ
namespace Go.Proofs.Ytecgigeahkijaaa
set_option linter.unusedVariables false
set_option linter.unusedSimpArgs false
open Go.RowKit E

theorem strL_ints {l : List Int} (h : inB l) : ints (strL l) = l := by
  unfold strL
  rw [ints_bstr (inB_lF h)]
  apply List.ext_getElem?
  intro i
  rw [List.getElem?_map]
  by_cases e : i < l.length
  · rw [List.getElem?_range e, List.getElem?_eq_getElem e]
    simp [lF, List.getD_eq_getElem?_getD, List.getElem?_eq_getElem e]
  · rw [List.getElem?_eq_none (by simpa using e), List.getElem?_eq_none (by omega)]; rfl
theorem ints_app (a b : ByteArray) : ints (a ++ b) = ints a ++ ints b := by unfold ints; rw [app_toList, List.map_append]
theorem strL_app {a b : List Int} (ha : inB a) (hb : inB b) : strL (a ++ b) = strL a ++ strL b :=
  ints_ext (by rw [ints_app, strL_ints (inB_app ha hb), strL_ints ha, strL_ints hb])
theorem strL_str (s : ByteArray) : strL (ints s) = s := ints_ext (strL_ints (inB_ints s))
theorem strL_size (l : List Int) : (strL l).size = l.length := bstr_size _ _
theorem row_one (g : Nat → List At) (x : Int) (h : cellN (g 0) = x) (hx : 0 ≤ x ∧ x < 256) : rowStr 1 g = strL [x] := by
  apply ints_ext
  rw [strL_ints (fun y hy => by simp at hy; subst hy; exact hx)]
  have : rowStr 1 g = bstr 1 (fun i => cellN (g i)) := rfl
  rw [this, ints_bstr (fun i hi => by have : i = 0 := by omega
                                      subst this; rw [h]; exact hx)]
  simp [h]
theorem row_lit {x y : Int} (h : x = y) (hy : 0 ≤ y ∧ y < 256) : rowStr 1 (litG 1 [.val (.int .u8 x)]) = strL [y] := row_one _ y h hy
theorem bytes_lit (x : Int) : bytesG 1 (litG 1 [.val (.int .u8 x)]) := fun i hi => by
  have e : i = 0 := by omega
  subst e; rfl
def gHighN (N : Nat) : List SV → Option (SV × List Prop)
  | [.nv (.one (.val (.int .u64 n))), .nv (.one (.val (.int .i64 w)))] => some (sA (strL (hiL w.toNat n)), [0 ≤ n, n ≤ 18446744073709551615, 0 ≤ w, w.toNat ≤ N, w ≤ 8])
  | _ => none
def Ghi (N : Nat) : List (FuncId × Sp) := (39, pureS (gHighN N)) :: Gb8
theorem Ghi_ok (N : Nat) (ih : SpOk Try.prog 39 (pureS (gHighN N))) : CtxOk Try.prog (Ghi N) := ctx_cons (enter_of Try.func39 (by kernel_rfl) (by kernel_rfl)) ih Gb8_ok
def gFewN (N : Nat) : List SV → Option (SV × List Prop)
  | [.nv (.one (.val (.int .u64 n)))] => some (sA (strL (varL N n)), [0 ≤ n, n ≤ 18446744073709551615, n < 2 * 128 ^ N, N ≤ 100])
  | _ => none
def Gfew (N : Nat) : List (FuncId × Sp) := (38, pureS (gFewN N)) :: Gb8
theorem Gfew_ok (N : Nat) (ih : SpOk Try.prog 38 (pureS (gFewN N))) : CtxOk Try.prog (Gfew N) := ctx_cons (enter_of Try.func38 (by kernel_rfl) (by kernel_rfl)) ih Gb8_ok
theorem tdiv_e {n : Int} (h : 0 ≤ n) (k : Int) : Int.tdiv n k = n / k := Int.tdiv_eq_ediv_of_nonneg h
theorem tmod_e {n : Int} (h : 0 ≤ n) (k : Int) : Int.tmod n k = n % k := Int.tmod_eq_emod_of_nonneg h
end Go.Proofs.Ytecgigeahkijaaa
