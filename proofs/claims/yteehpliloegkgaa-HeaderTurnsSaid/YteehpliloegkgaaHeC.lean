/- header: what Put makes is taken as it was. No condition. -/
import Derived.Test.YteehpliloegkgaaHeB
namespace Go.Proofs.Yteehpliloegkgaa
set_option linter.unusedVariables false
set_option linter.unusedSimpArgs false
open Go.RowKit E
theorem ints_put {h : Hd} {b : ByteArray} (hw : h.wf) (e : hPutE h b = 0) : ints (hPutS h b) = hdrL h b.size ++ ints b := by
  rw [hPutS_0 e]
  exact strL_ints (inB_app (hdrL_inB hw (hPutE_0 e).1 (by have := (hPutE_0 e).2; omega)) (inB_ints b))
theorem body_put {h : Hd} {b : ByteArray} (hw : h.wf) (e : hPutE h b = 0) : bodyZ (hPutS h b) = b := by
  apply ints_ext
  unfold bodyZ
  rw [ints_cut, hPutS_size e, ints_put hw e, List.drop_append_of_le_length (by rw [hdrL_len]; omega), List.drop_of_length_le (by rw [hdrL_len]; omega), List.nil_append, List.take_of_length_le (by rw [ints_len]; omega)]
theorem l28_put {h : Hd} {b : ByteArray} (hw : h.wf) (e : hPutE h b = 0) : l28 (hPutS h b) = hdrL h b.size := by
  have h1 := ints_28 (hPutS h b) (by rw [hPutS_size e]; omega)
  rw [ints_put hw e, body_put hw e] at h1
  exact (List.append_cancel_right h1).symm
theorem rd_put {h : Hd} {b : ByteArray} (hw : h.wf) (e : hPutE h b = 0) : rdH (hPutS h b) = h := by
  have h1 := l28_put hw e
  have hd := (hPutE_0 e).1
  obtain ⟨d, id, ttl, src, dst, sp, dp⟩ := h
  obtain ⟨c1, c2, c3, c4, c5, c6, c7⟩ := hw
  unfold l28 hdrL P1 P2 P3 w2 at h1
  simp only [List.cons_append, List.nil_append, List.cons.injEq, and_true] at h1 c1 c2 c3 c4 c5 c6 c7 hd
  obtain ⟨a0, a1, a2, a3, a4, a5, a6, a7, a8, a9, a10, a11, a12, a13, a14, a15, a16, a17, a18, a19, a20, a21, a22, a23, a24, a25, a26, a27⟩ := h1
  have f : ∀ (s : ByteArray) (k : Int), hfZ s k = byteAt s k * 256 + byteAt s (k + 1) := fun _ _ => rfl
  have g : ∀ (s : ByteArray) (k : Int), wdZ s k = (byteAt s k * 256 + byteAt s (k + 1)) * 65536 + (byteAt s (k + 2) * 256 + byteAt s (k + 2 + 1)) := fun _ _ => rfl
  unfold rdH
  rw [f, f, f, g, g]
  simp only [show (4 : Int) + 1 = 5 from rfl, show (20 : Int) + 1 = 21 from rfl, show (22 : Int) + 1 = 23 from rfl, show (12 : Int) + 1 = 13 from rfl, show (12 : Int) + 2 = 14 from rfl, show (14 : Int) + 1 = 15 from rfl, show (16 : Int) + 1 = 17 from rfl, show (16 : Int) + 2 = 18 from rfl, show (18 : Int) + 1 = 19 from rfl, a1, a4, a5, a8, a12, a13, a14, a15, a16, a17, a18, a19, a20, a21, a22, a23, Hd.mk.injEq]
  refine ⟨by omega, by omega, by omega, by omega, by omega, by omega, by omega⟩
theorem dt_put {h : Hd} {b : ByteArray} (hw : h.wf) (e : hPutE h b = 0) : dtE (hPutS h b) = 0 := by
  unfold dtE
  rw [if_neg (by rw [hPutS_size e]; omega), rd_put hw e, body_put hw e, if_pos e, if_pos rfl, if_pos rfl]
theorem take_put {h : Hd} {b : ByteArray} (hw : h.wf) (e : hPutE h b = 0) : tkE (hPutS h b) = 0 ∧ tkH (hPutS h b) = h ∧ tkB (hPutS h b) = b := by
  have d := dt_put hw e
  refine ⟨by rw [tk_dt]; exact d, ?_, ?_⟩
  · rw [tk_dtH]; exact (if_pos d).trans (rd_put hw e)
  · rw [tk_dtB]; exact (if_pos d).trans (body_put hw e)
end Go.Proofs.Yteehpliloegkgaa
