/- header: Update, form, word, Clone as specifications. No condition. -/
import Derived.Test.YteehpliloegkgaaHdH
namespace Go.Proofs.Yteehpliloegkgaa
set_option linter.unusedVariables false
set_option linter.unusedSimpArgs false
open Go.RowKit E
theorem ext_sz {s : ByteArray} {a b : Nat} (h : s.size ≤ 140737488355328) : (s.extract a b).size ≤ 140737488355328 := by
  rw [ByteArray.size_extract]; omega
def updZ (t w i : Int) : Int := 65535 - ringZ (ringZ (65535 - t) (65535 - w)) i
theorem updZ_bd {t w i : Int} (ht : 0 ≤ t ∧ t ≤ 65535) (hw : 0 ≤ w ∧ w ≤ 65535) (hi : 0 ≤ i ∧ i ≤ 65535) : 0 ≤ updZ t w i ∧ updZ t w i ≤ 65535 := by
  have := ringZ_bd (ringZ_bd (a := 65535 - t) (b := 65535 - w) (by omega) (by omega)) hi
  unfold updZ; omega
def gUpd : List SV → Option (SV × List Prop)
  | [.nv (.one (.val (.int .u16 t))), .nv (.one (.val (.int .u16 w))), .nv (.one (.val (.int .u16 i)))] => some (.nv (.one (.val (.int .u16 (updZ t w i)))), [0 ≤ t, t ≤ 65535, 0 ≤ w, w ≤ 65535, 0 ≤ i, i ≤ 65535])
  | _ => none
theorem spUpd : SpOk Try.prog 32 (pureS gUpd) := pureS_ok (by
  intro args r obl h ho
  unfold gUpd at h
  split at h
  · rename_i t w i
    simp only [Option.some.injEq, Prod.mk.injEq] at h
    obtain ⟨rfl, rfl⟩ := h
    obtain ⟨o1, o2, o3, o4, o5, o6, _⟩ := ho
    have r1 := ringZ_bd (a := 65535 - t) (b := 65535 - w) (by omega) (by omega)
    have r2 := ringZ_bd r1 ⟨o5, o6⟩
    refine ⟨rfl, rfl, up_f t w i (65535 - t) (65535 - w) _ ?_ ?_ (wU32 rfl (by omega)) (by omega) (by omega) ⟨o5, o6⟩ r1 ?_⟩
    · rw [u16_not _ (by omega)]; exact wU32 rfl (by omega)
    · rw [u16_not _ (by omega)]; exact wU32 rfl (by omega)
    · rw [wU16 (a := ringZ (ringZ (65535 - t) (65535 - w)) i) rfl r2]; exact u16_not _ r2
  · cases h)
def formZ (s : ByteArray) : Bool := decide (byteAt s 0 = 69 ∧ byteAt s 1 % 4 = 0 ∧ hfZ s 2 = (s.size : Int) ∧ hfZ s 6 = 0 ∧ byteAt s 9 = 17 ∧ hfZ s 24 = (s.size : Int) - 20 ∧ hfZ s 26 = 0)
theorem pureForm (s : ByteArray) (hs : 28 ≤ s.size) (hz : s.size ≤ 140737488355328) : PureOk Try.prog 22 [.nv (.one (.val (.string s)))] (.nv (.one (.val (.bool (formZ s))))) := by
  have b1 := byteAt_bd s 1
  have h2 := hfZ_bd s 2
  have h24 := hfZ_bd s 24
  have e20 : IntKind.wrap IntKind.i64 ((s.size : Int) - 20) = (s.size : Int) - 20 := w64 rfl (by omega)
  have w2 : IntKind.wrap IntKind.i64 (hfZ s 2) = hfZ s 2 := w64 rfl (by omega)
  have w24 : IntKind.wrap IntKind.i64 (hfZ s 24) = hfZ s 24 := w64 rfl (by omega)
  have t1 : Int.tmod (byteAt s 1) 4 = byteAt s 1 % 4 := Int.tmod_eq_emod_of_nonneg b1.1
  by_cases h0 : byteAt s 0 = 69
  case neg =>
    rw [show formZ s = false from decide_eq_false (fun q => h0 (by obtain ⟨q0, q1, q2, q3, q4, q5, q6⟩ := q; first | exact q0 | (rw [t1]; exact q1) | (rw [w2]; exact q2) | (rw [w24]; exact q5)))]
    exact fm_0 s hs hz e20 h0
  by_cases h1 : Int.tmod (byteAt s 1) 4 = 0
  case neg =>
    rw [show formZ s = false from decide_eq_false (fun q => h1 (by obtain ⟨q0, q1, q2, q3, q4, q5, q6⟩ := q; first | exact q1 | (rw [t1]; exact q1) | (rw [w2]; exact q2) | (rw [w24]; exact q5)))]
    exact fm_1 s hs hz e20 h0 h1
  by_cases h2' : IntKind.wrap IntKind.i64 (hfZ s 2) = (s.size : Int)
  case neg =>
    rw [show formZ s = false from decide_eq_false (fun q => h2' (by obtain ⟨q0, q1, q2, q3, q4, q5, q6⟩ := q; first | exact q2 | (rw [t1]; exact q1) | (rw [w2]; exact q2) | (rw [w24]; exact q5)))]
    exact fm_2 s hs hz e20 h0 h1 h2'
  by_cases h3 : hfZ s 6 = 0
  case neg =>
    rw [show formZ s = false from decide_eq_false (fun q => h3 (by obtain ⟨q0, q1, q2, q3, q4, q5, q6⟩ := q; first | exact q3 | (rw [t1]; exact q1) | (rw [w2]; exact q2) | (rw [w24]; exact q5)))]
    exact fm_3 s hs hz e20 h0 h1 h2' h3
  by_cases h4 : byteAt s 9 = 17
  case neg =>
    rw [show formZ s = false from decide_eq_false (fun q => h4 (by obtain ⟨q0, q1, q2, q3, q4, q5, q6⟩ := q; first | exact q4 | (rw [t1]; exact q1) | (rw [w2]; exact q2) | (rw [w24]; exact q5)))]
    exact fm_4 s hs hz e20 h0 h1 h2' h3 h4
  by_cases h5 : IntKind.wrap IntKind.i64 (hfZ s 24) = (s.size : Int) - 20
  case neg =>
    rw [show formZ s = false from decide_eq_false (fun q => h5 (by obtain ⟨q0, q1, q2, q3, q4, q5, q6⟩ := q; first | exact q5 | (rw [t1]; exact q1) | (rw [w2]; exact q2) | (rw [w24]; exact q5)))]
    exact fm_5 s hs hz e20 h0 h1 h2' h3 h4 h5
  by_cases h6 : hfZ s 26 = 0
  case neg =>
    rw [show formZ s = false from decide_eq_false (fun q => h6 (by obtain ⟨q0, q1, q2, q3, q4, q5, q6⟩ := q; first | exact q6 | (rw [t1]; exact q1) | (rw [w2]; exact q2) | (rw [w24]; exact q5)))]
    exact fm_6 s hs hz e20 h0 h1 h2' h3 h4 h5 h6
  rw [show formZ s = true from decide_eq_true ⟨h0, by rw [← t1]; exact h1, by rw [← w2]; exact h2', h3, h4, by rw [← w24]; exact h5, h6⟩]
  exact fm_7 s hs hz e20 h0 h1 h2' h3 h4 h5 h6
def gForm : List SV → Option (SV × List Prop)
  | [.nv (.one (.val (.string s)))] => some (.nv (.one (.val (.bool (formZ s)))), [28 ≤ s.size, s.size ≤ 140737488355328])
  | _ => none
theorem spForm : SpOk Try.prog 22 (pureS gForm) := pureS_ok (by
  intro args r obl h ho
  unfold gForm at h
  split at h
  · simp only [Option.some.injEq, Prod.mk.injEq] at h
    obtain ⟨rfl, rfl⟩ := h
    exact ⟨rfl, rfl, pureForm _ ho.1 ho.2.1⟩
  · cases h)
def wdZ (s : ByteArray) (k : Int) : Int := hfZ s k * 65536 + hfZ s (k + 2)
def gWord : List SV → Option (SV × List Prop)
  | [.nv (.one (.val (.string s))), .nv (.one (.val (.int .i64 k)))] => some (.nv (.one (.val (.int .u32 (wdZ s k)))), [0 ≤ k, k + 3 < s.size, s.size ≤ 140737488355328])
  | _ => none
theorem wdZ_bd (s : ByteArray) (k : Int) : 0 ≤ wdZ s k ∧ wdZ s k ≤ 4294967295 := by
  have := hfZ_bd s k
  have := hfZ_bd s (k + 2)
  unfold wdZ; omega
theorem spWord : SpOk Try.prog 24 (pureS gWord) := pureS_ok (by
  intro args r obl h ho
  unfold gWord at h
  split at h
  · rename_i s k
    simp only [Option.some.injEq, Prod.mk.injEq] at h
    obtain ⟨rfl, rfl⟩ := h
    obtain ⟨o1, o2, o3, _⟩ := ho
    obtain ⟨k, rfl⟩ := Int.eq_ofNat_of_zero_le o1
    have b1 := hfZ_bd s k
    have b2 := hfZ_bd s (k + 2)
    refine ⟨rfl, rfl, wd_f s k _ (by omega) o3 (w64 rfl (by omega)) ?_⟩
    rw [wU32 (a := hfZ s k) (b := hfZ s k) rfl (by omega), show (2 : Int) ^ 16 = 65536 from rfl, wU32 (a := hfZ s k * 65536) (b := hfZ s k * 65536) rfl (by omega), wU32 (a := hfZ s ((k : Int) + 2)) (b := hfZ s ((k : Int) + 2)) rfl (by omega)]
    exact wU32 rfl (show 0 ≤ hfZ s k * 65536 + hfZ s ((k : Int) + 2) ∧ hfZ s k * 65536 + hfZ s ((k : Int) + 2) ≤ 4294967295 by omega)
  · cases h)
theorem spClone : SpOk Try.prog 25 (pureS gScl) := pureS_ok (by
  intro args r obl h ho
  unfold gScl at h
  split at h
  · rename_i s
    simp only [Option.some.injEq, Prod.mk.injEq] at h
    obtain ⟨rfl, rfl⟩ := h
    exact ⟨rfl, rfl, cl_f s ho.1⟩
  · cases h)
def GhD : List (FuncId × Sp) := (32, pureS gUpd) :: (22, pureS gForm) :: (24, pureS gWord) :: (25, pureS gScl) :: GhC
theorem GhD_ok : CtxOk Try.prog GhD := ctx_cons (enter_of Try.func32 (by kernel_rfl) (by kernel_rfl)) spUpd <|
  ctx_cons (enter_of Try.func22 (by kernel_rfl) (by kernel_rfl)) spForm <|
  ctx_cons (enter_of Try.func24 (by kernel_rfl) (by kernel_rfl)) spWord <|
  ctx_cons (enter_of Try.func25 (by kernel_rfl) (by kernel_rfl)) spClone GhC_ok
end Go.Proofs.Yteehpliloegkgaa
