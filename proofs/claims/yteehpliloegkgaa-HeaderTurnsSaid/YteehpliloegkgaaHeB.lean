/- header: both Takes are the same. No condition. -/
import Derived.Test.YteehpliloegkgaaHeA
namespace Go.Proofs.Yteehpliloegkgaa
set_option linter.unusedVariables false
set_option linter.unusedSimpArgs false
open Go.RowKit E
theorem form_of (s : ByteArray) (hs : 28 ≤ s.size) (e : hPutE (rdH s) (bodyZ s) = 0) (hc : cutS (hPutS (rdH s) (bodyZ s)) = cutS s) : formZ s = true := by
  have hd := hdrL_inB (rdH_wf s) (hPutE_0 e).1 (N := ((bodyZ s).size : Nat)) (by have := (hPutE_0 e).2; omega)
  have sz := hPutS_size e
  have bs := body_size s hs
  have h := congrArg ints hc
  unfold cutS at h
  rw [ints_app, ints_app, ints_cut, ints_cut, ints_cut, ints_cut, sz, hPutS_0 e, strL_ints (inB_app hd (inB_ints _)), show 28 + (bodyZ s).size = s.size by omega] at h
  conv at h => rhs; rw [ints_28 s hs, l28_split]
  have h1 : P1 (rdH s) ((bodyZ s).size : Nat) ++ ((P2 (rdH s) ++ P3 (rdH s) ((bodyZ s).size : Nat)) ++ ints (bodyZ s)).take (s.size - 12) = l10 s ++ ((l12 s ++ l20 s) ++ ints (bodyZ s)).take (s.size - 12) := h
  have hl : (ints (bodyZ s)).length = s.size - 28 := by rw [ints_len]; exact bs
  rw [List.take_of_length_le (by rw [List.length_append, hl]; show 16 + _ ≤ _; omega), List.take_of_length_le (by rw [List.length_append, hl]; show 16 + _ ≤ _; omega)] at h1
  obtain ⟨p1, p2⟩ := List.append_inj h1 rfl
  have p3 := List.append_cancel_right p2
  rw [P2_rd] at p3
  have p4 := List.append_cancel_left p3
  have b := fun k => byteAt_bd s k
  have f := fun k => hfZ_bd s k
  have q1 : w2 (17664 + 4 * (byteAt s 1 / 4)) ++ (w2 (((bodyZ s).size : Nat) + 28) ++ (w2 (hfZ s 4) ++ (w2 0 ++ w2 (256 * byteAt s 8 + 17)))) = l10 s := p1
  have q3 : w2 (hfZ s 20) ++ (w2 (hfZ s 22) ++ (w2 (((bodyZ s).size : Nat) + 8) ++ w2 0)) = l20 s := p4
  unfold w2 l10 at q1
  unfold w2 l20 at q3
  simp only [List.cons_append, List.nil_append, List.cons.injEq, and_true] at q1 q3
  have b1 := b 1
  have b8 := b 8
  have e2 : hfZ s 2 = byteAt s 2 * 256 + byteAt s 3 := rfl
  have e6 : hfZ s 6 = byteAt s 6 * 256 + byteAt s 7 := rfl
  have e24 : hfZ s 24 = byteAt s 24 * 256 + byteAt s 25 := rfl
  have e26 : hfZ s 26 = byteAt s 26 * 256 + byteAt s 27 := rfl
  obtain ⟨a0, a1, a2, a3, a4, a5, a6, a7, a8, a9⟩ := q1
  obtain ⟨c0, c1, c2, c3, c4, c5, c6, c7⟩ := q3
  have := (hPutE_0 e).2
  exact decide_eq_true ⟨by omega, by omega, by omega, by omega, by omega, by omega, by omega⟩
theorem tk_dt (s : ByteArray) : tkE s = dtE s := by
  unfold tkE dtE
  by_cases h1 : s.size < 28
  · rw [if_pos h1, if_pos h1]
  rw [if_neg h1, if_neg h1]
  have hs : 28 ≤ s.size := by omega
  cases hf : formZ s
  · rw [if_pos rfl]
    by_cases h2 : hPutE (rdH s) (bodyZ s) = 0
    · rw [if_pos h2]
      by_cases h3 : cutS (hPutS (rdH s) (bodyZ s)) = cutS s
      · rw [form_of s hs h2 h3] at hf; cases hf
      · rw [if_neg h3]
    · rw [if_neg h2]
  · rw [if_neg (by decide), if_pos (form_E s hs hf), if_pos (cut_form s hs hf)]
    by_cases h : hfZ s 10 = sumZ s
    · rw [if_pos h, if_pos ((tk_iff s hs hf).2 h)]
    · rw [if_neg h, if_neg (fun q => h ((tk_iff s hs hf).1 q))]
theorem tk_dtH (s : ByteArray) : tkH s = dtH s := by unfold tkH dtH; rw [tk_dt]
theorem tk_dtB (s : ByteArray) : tkB s = dtB s := by unfold tkB dtB; rw [tk_dt]; rfl
end Go.Proofs.Yteehpliloegkgaa
