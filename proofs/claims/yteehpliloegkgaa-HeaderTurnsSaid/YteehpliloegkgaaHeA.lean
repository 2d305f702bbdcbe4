/- header: what Take takes is what Put makes. No condition. -/
import Derived.Test.YteehpliloegkgaaHdZ
namespace Go.Proofs.Yteehpliloegkgaa
set_option linter.unusedVariables false
set_option linter.unusedSimpArgs false
open Go.RowKit E
theorem body_size (s : ByteArray) (hs : 28 ≤ s.size) : (bodyZ s).size = s.size - 28 := by unfold bodyZ; rw [ByteArray.size_extract]; omega
theorem form_E (s : ByteArray) (hs : 28 ≤ s.size) (hf : formZ s = true) : hPutE (rdH s) (bodyZ s) = 0 := by
  have hq := of_decide_eq_true hf
  have b1 := byteAt_bd s 1
  have b2 := hfZ_bd s 2
  have bs := body_size s hs
  unfold hPutE
  rw [if_neg (show ¬ (rdH s).d > 63 from (show ¬ byteAt s 1 / 4 > 63 by omega)), if_neg (by omega)]
theorem l_inB (s : ByteArray) : inB (l10 s) ∧ inB (l12 s) := by
  have b := fun k => byteAt_bd s k
  constructor
  · intro y hy
    simp only [l10, List.mem_cons, List.not_mem_nil, or_false] at hy
    rcases hy with rfl | rfl | rfl | rfl | rfl | rfl | rfl | rfl | rfl | rfl <;> exact b _
  · intro y hy
    simp only [l12, List.mem_cons, List.not_mem_nil, or_false] at hy
    rcases hy with rfl | rfl | rfl | rfl | rfl | rfl | rfl | rfl <;> exact b _
theorem sum_l (s : ByteArray) (hs : 28 ≤ s.size) : sumZ s = inetL (l10 s ++ (w2 0 ++ l12 s)) := by
  unfold sumZ inetZ inetL
  rw [ints_app, ints_app, ints_cut, ints_cut, ints_28 s hs, l28_split]
  rfl
theorem hdr_rd (s : ByteArray) (hs : 28 ≤ s.size) (hf : formZ s = true) : hdrL (rdH s) ((bodyZ s).size : Nat) = l10 s ++ (w2 (sumZ s) ++ (l12 s ++ l20 s)) := by
  unfold hdrL
  rw [P1_rd s hs hf, P2_rd, P3_rd s hs hf, sum_l s hs]
theorem tk_iff (s : ByteArray) (hs : 28 ≤ s.size) (hf : formZ s = true) : hPutS (rdH s) (bodyZ s) = s ↔ hfZ s 10 = sumZ s := by
  have e := form_E s hs hf
  have hd := hdrL_inB (rdH_wf s) (hPutE_0 e).1 (N := ((bodyZ s).size : Nat)) (by have := (hPutE_0 e).2; omega)
  have hb := byteAt_bd s 10
  have hb' := byteAt_bd s 11
  rw [hPutS_0 e]
  constructor
  · intro h
    have h1 := congrArg ints h
    rw [strL_ints (inB_app hd (inB_ints _)), hdr_rd s hs hf, ints_28 s hs] at h1
    have h2 := List.append_cancel_right h1
    rw [l28_split] at h2
    have h3 := List.append_cancel_right (List.append_cancel_left h2)
    unfold w2 at h3
    simp only [List.cons.injEq, and_true] at h3
    have : hfZ s 10 = byteAt s 10 * 256 + byteAt s 11 := rfl
    omega
  · intro h
    rw [hdr_rd s hs hf, ← h, hf2]
    rw [show l10 s ++ ([byteAt s 10, byteAt s (10 + 1)] ++ (l12 s ++ l20 s)) = l28 s from rfl, ← ints_28 s hs, strL_str]
theorem cut_form (s : ByteArray) (hs : 28 ≤ s.size) (hf : formZ s = true) : cutS (hPutS (rdH s) (bodyZ s)) = cutS s := by
  have e := form_E s hs hf
  have hd := hdrL_inB (rdH_wf s) (hPutE_0 e).1 (N := ((bodyZ s).size : Nat)) (by have := (hPutE_0 e).2; omega)
  have sz := hPutS_size e
  have bs := body_size s hs
  apply ints_ext
  unfold cutS
  rw [ints_app, ints_app, ints_cut, ints_cut, ints_cut, ints_cut, sz, hPutS_0 e, strL_ints (inB_app hd (inB_ints _)), hdr_rd s hs hf, show 28 + (bodyZ s).size = s.size by omega]
  conv => rhs; rw [ints_28 s hs, l28_split]
  rfl
end Go.Proofs.Yteehpliloegkgaa
