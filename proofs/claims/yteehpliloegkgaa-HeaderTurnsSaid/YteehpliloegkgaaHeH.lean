/- header: what is marked, and hopped, is what Put makes then. No condition. -/
import Derived.Test.YteehpliloegkgaaHeG
namespace Go.Proofs.Yteehpliloegkgaa
set_option linter.unusedVariables false
set_option linter.unusedSimpArgs false
open Go.RowKit E
theorem ints_cutW (s : ByteArray) (k : Nat) (i : Int) (hi : 0 ≤ i ∧ i ≤ 65535) (hk : k + 2 ≤ s.size) : ints (cutW s k i) = (ints s).take k ++ (w2 i ++ (ints s).drop (k + 2)) := by
  unfold cutW
  rw [ints_app, ints_app, ints_cut, ints_cut, strL_ints (w2_inB hi), List.drop_zero, Nat.sub_zero, List.append_assoc, List.take_of_length_le (l := (ints s).drop (k + 2)) (by rw [List.length_drop, ints_len]; omega)]
theorem size_cutW (s : ByteArray) (k : Nat) (i : Int) (hk : k + 2 ≤ s.size) : (cutW s k i).size = s.size := by
  unfold cutW
  rw [ByteArray.size_append, ByteArray.size_append, ByteArray.size_extract, ByteArray.size_extract, strL_size]
  show min k s.size - 0 + 2 + _ = _
  omega
/-- The bytes of a datagram ahead of its body, with any sum. -/
def hdrX (h : Hd) (N t : Int) : List Int := P1 h N ++ (w2 t ++ (P2 h ++ P3 h N))
theorem hf_put {h : Hd} {b : ByteArray} (hw : h.wf) (e : hPutE h b = 0) : hfZ (hPutS h b) 0 = 17664 + 4 * h.d ∧ hfZ (hPutS h b) 8 = 256 * h.ttl + 17 ∧ hfZ (hPutS h b) 10 = inetL (headL h (b.size : Nat)) := by
  have h1 := l28_put hw e
  unfold l28 hdrL P1 w2 at h1
  simp only [List.cons_append, List.nil_append, List.cons.injEq] at h1
  obtain ⟨a0, a1, a2, a3, a4, a5, a6, a7, a8, a9, a10, a11, _⟩ := h1
  have f : ∀ (s : ByteArray) (k : Int), hfZ s k = byteAt s k * 256 + byteAt s (k + 1) := fun _ _ => rfl
  refine ⟨?_, ?_, ?_⟩
  · rw [f, a0, show (0 : Int) + 1 = 1 from rfl, a1]; omega
  · rw [f, a8, show (8 : Int) + 1 = 9 from rfl, a9]; omega
  · rw [f, a10, show (10 : Int) + 1 = 11 from rfl, a11]
    show inetL (headL h (b.size : Nat)) / 256 * 256 + inetL (headL h (b.size : Nat)) % 256 = _
    omega
theorem wi_put {h : Hd} {b : ByteArray} (hw : h.wf) (e : hPutE h b = 0) {g : Hd} (gw : g.wf) (gd : g.d ≤ 63) (k : Nat) (i : Int) (hi : 0 ≤ i ∧ i ≤ 65535) (hk : k = 0 ∨ k = 8)
    (hl : ∀ t l, (hdrX h (b.size : Nat) t ++ l).take k ++ (w2 i ++ (hdrX h (b.size : Nat) t ++ l).drop (k + 2)) = hdrX g (b.size : Nat) t ++ l)
    (hS : headS g (b.size : Nat) = headS h (b.size : Nat) - hfZ (hPutS h b) k + i) : wiZ (hPutS h b) k i = hPutS g b := by
  have hd := (hPutE_0 e).1
  have hN : (0 : Int) ≤ (b.size : Nat) ∧ ((b.size : Nat) : Int) ≤ 65507 := by have := (hPutE_0 e).2; omega
  have e' : hPutE g b = 0 := by unfold hPutE; rw [if_neg (by omega), if_neg (by omega)]
  have hs := hPutS_size e
  have hf := hf_put hw e
  apply ints_ext
  unfold wiZ
  have hu : updZ (hfZ (hPutS h b) 10) (hfZ (hPutS h b) k) i = inetL (headL g (b.size : Nat)) := by
    rw [hf.2.2]; exact upd_head hw hd gw gd hN (hfZ_bd _ _) hi hS
  rw [hu, ints_cutW _ _ _ (inetL_bd (head_inB gw gd hN)) (by rw [size_cutW _ _ _ (by omega)]; omega), ints_cutW _ _ _ hi (by omega), ints_put hw e, ints_put gw e']
  rw [show hdrL h (b.size : Nat) = hdrX h (b.size : Nat) (inetL (headL h (b.size : Nat))) from rfl, hl]
  rfl
theorem mark_put {h : Hd} {b : ByteArray} (hw : h.wf) (e : hPutE h b = 0) {d : Int} (hd : 0 ≤ d ∧ d ≤ 63) : wiZ (hPutS h b) 0 (17664 + 4 * d) = hPutS (mkH h d) b := by
  refine wi_put hw e (mkH_wf hw (by omega)) hd.2 0 _ (by omega) (.inl rfl) (fun t l => rfl) ?_
  rw [show hfZ (hPutS h b) ((0 : Nat) : Int) = _ from (hf_put hw e).1]
  simp only [headS, mkH]; omega
theorem hop_put {h : Hd} {b : ByteArray} (hw : h.wf) (e : hPutE h b = 0) (ht : ¬ h.ttl < 2) : wiZ (hPutS h b) 8 (hfZ (hPutS h b) 8 - 256) = hPutS (hoH h) b := by
  have f8 := (hf_put hw e).2.1
  have tb := hw.2.2.1
  rw [f8]
  have hi : 256 * h.ttl + 17 - 256 = 256 * (h.ttl - 1) + 17 := by omega
  rw [hi]
  refine wi_put hw e (hoH_wf hw ht) (hPutE_0 e).1 8 _ (by omega) (.inr rfl) (fun t l => rfl) ?_
  rw [show hfZ (hPutS h b) ((8 : Nat) : Int) = _ from f8]
  simp only [headS, hoH]; omega
theorem dt0 {s : ByteArray} (h : dtE s = 0) : hPutE (rdH s) (bodyZ s) = 0 ∧ hPutS (rdH s) (bodyZ s) = s := by
  unfold dtE at h
  split at h
  · omega
  · split at h
    · rename_i e
      split at h
      · split at h
        · rename_i e2; exact ⟨e, e2⟩
        · omega
      · omega
    · omega
theorem hPutE_mk {h : Hd} {b : ByteArray} (e : hPutE h b = 0) {d : Int} (hd : ¬ d > 63) : hPutE (mkH h d) b = 0 := by
  have := hPutE_0 e
  unfold hPutE
  rw [if_neg (show ¬ (mkH h d).d > 63 from hd), if_neg (by omega)]
theorem hPutE_ho {h : Hd} {b : ByteArray} (e : hPutE h b = 0) : hPutE (hoH h) b = 0 := by
  have := hPutE_0 e
  unfold hPutE
  rw [if_neg (show ¬ (hoH h).d > 63 from (by show ¬ h.d > 63; omega)), if_neg (by omega)]
theorem mk_dmE (s : ByteArray) (d : Int) : mkE s d = dmE s d := by
  unfold mkE dmE
  by_cases h : d > 63
  · rw [if_pos h, if_pos h]
  rw [if_neg h, if_neg h, tk_dt]
  by_cases h0 : dtE s = 0
  · rw [if_pos h0, h0, show dtH s = rdH s from if_pos h0, show dtB s = bodyZ s from if_pos h0, hPutE_mk (dt0 h0).1 h]
  · rw [if_neg h0]
theorem mk_dmS (s : ByteArray) {d : Int} (hd : 0 ≤ d) : mkS s d = dmS s d := by
  unfold mkS dmS
  by_cases h : d > 63
  · rw [if_pos h, if_neg (show ¬ mkE s d = 0 by unfold mkE; rw [if_pos h]; decide)]
  rw [if_neg h, show mkE s d = dtE s from (if_neg h).trans (tk_dt s)]
  by_cases h0 : dtE s = 0
  · rw [if_pos h0, if_pos h0, show dtH s = rdH s from if_pos h0, show dtB s = bodyZ s from if_pos h0]
    obtain ⟨p, q⟩ := dt0 h0
    have := mark_put (rdH_wf s) p (d := d) (by omega)
    rw [q] at this; exact this
  · rw [if_neg h0, if_neg h0]
theorem ho_dhE (s : ByteArray) : hoE s = dhE s := by
  unfold hoE dhE
  rw [tk_dt]
  by_cases h0 : dtE s = 0
  · rw [if_pos h0, if_pos h0, show dtH s = rdH s from if_pos h0, show dtB s = bodyZ s from if_pos h0, hPutE_ho (dt0 h0).1]
    rfl
  · rw [if_neg h0, if_neg h0]
theorem ho_dhS (s : ByteArray) : hoS s = dhS s := by
  unfold hoS dhS hoE
  rw [tk_dt]
  by_cases h0 : dtE s = 0
  · rw [if_pos h0, if_pos h0, show dtH s = rdH s from if_pos h0, show dtB s = bodyZ s from if_pos h0]
    obtain ⟨p, q⟩ := dt0 h0
    by_cases ht : byteAt s 8 < 2
    · rw [if_pos ht, if_pos (show (rdH s).ttl < 2 from ht)]; rfl
    · rw [if_neg ht, if_neg (show ¬ (rdH s).ttl < 2 from ht), if_pos rfl]
      have := hop_put (rdH_wf s) p ht
      rw [q] at this; exact this
  · rw [if_neg h0, if_neg h0, if_neg h0]
end Go.Proofs.Yteehpliloegkgaa
