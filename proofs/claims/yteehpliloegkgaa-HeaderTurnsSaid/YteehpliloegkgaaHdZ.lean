/- header: the plain law of the form. No condition. -/
import Derived.Test.YteehpliloegkgaaHdY
namespace Go.Proofs.Yteehpliloegkgaa
set_option linter.unusedVariables false
set_option linter.unusedSimpArgs false
open Go.RowKit E
def l10 (s : ByteArray) : List Int := [byteAt s 0, byteAt s 1, byteAt s 2, byteAt s 3, byteAt s 4, byteAt s 5, byteAt s 6, byteAt s 7, byteAt s 8, byteAt s 9]
def l12 (s : ByteArray) : List Int := [byteAt s 12, byteAt s 13, byteAt s 14, byteAt s 15, byteAt s 16, byteAt s 17, byteAt s 18, byteAt s 19]
def l20 (s : ByteArray) : List Int := [byteAt s 20, byteAt s 21, byteAt s 22, byteAt s 23, byteAt s 24, byteAt s 25, byteAt s 26, byteAt s 27]
theorem l28_split (s : ByteArray) : l28 s = l10 s ++ ([byteAt s 10, byteAt s 11] ++ (l12 s ++ l20 s)) := rfl
theorem w2_eq {x a b : Int} (ha : 0 ≤ a ∧ a < 256) (hb : 0 ≤ b ∧ b < 256) (h : x = a * 256 + b) : w2 x = [a, b] := by
  unfold w2
  rw [show x / 256 = a by omega, show x % 256 = b by omega]
theorem hf2 (s : ByteArray) (k : Int) : w2 (hfZ s k) = [byteAt s k, byteAt s (k + 1)] := w2_eq (byteAt_bd s k) (byteAt_bd s (k + 1)) rfl
theorem P2_rd (s : ByteArray) : P2 (rdH s) = l12 s := by
  have f := fun k => hfZ_bd s k
  have e : ∀ k : Int, w2 (wdZ s k / 65536) ++ w2 (wdZ s k % 65536) = [byteAt s k, byteAt s (k + 1)] ++ [byteAt s (k + 2), byteAt s (k + 2 + 1)] := fun k => by
    have h1 := f k
    have h2 := f (k + 2)
    rw [show wdZ s k / 65536 = hfZ s k by unfold wdZ; omega, show wdZ s k % 65536 = hfZ s (k + 2) by unfold wdZ; omega, hf2, hf2]
  show w2 (wdZ s 12 / 65536) ++ (w2 (wdZ s 12 % 65536) ++ (w2 (wdZ s 16 / 65536) ++ w2 (wdZ s 16 % 65536))) = _
  rw [← List.append_assoc, e 12, e 16]; rfl
theorem P1_rd (s : ByteArray) (hs : 28 ≤ s.size) (hf : formZ s = true) : P1 (rdH s) ((bodyZ s).size : Nat) = l10 s := by
  have hq := of_decide_eq_true hf
  obtain ⟨q0, q1, q2, q3, q4, q5, q6⟩ := hq
  have b := fun k => byteAt_bd s k
  have bs : (bodyZ s).size = s.size - 28 := by unfold bodyZ; rw [ByteArray.size_extract]; omega
  have h1 := b 1
  have h8 := b 8
  show w2 (17664 + 4 * (byteAt s 1 / 4)) ++ (w2 (((bodyZ s).size : Nat) + 28) ++ (w2 (hfZ s 4) ++ (w2 0 ++ w2 (256 * byteAt s 8 + 17)))) = _
  rw [w2_eq (b 0) (b 1) (by omega), show (((bodyZ s).size : Nat) : Int) + 28 = hfZ s 2 by rw [q2]; omega, show w2 0 = w2 (hfZ s 6) by rw [q3], hf2, hf2, hf2, w2_eq (b 8) (b 9) (by omega)]; rfl
theorem P3_rd (s : ByteArray) (hs : 28 ≤ s.size) (hf : formZ s = true) : P3 (rdH s) ((bodyZ s).size : Nat) = l20 s := by
  have hq := of_decide_eq_true hf
  obtain ⟨q0, q1, q2, q3, q4, q5, q6⟩ := hq
  have bs : (bodyZ s).size = s.size - 28 := by unfold bodyZ; rw [ByteArray.size_extract]; omega
  show w2 (hfZ s 20) ++ (w2 (hfZ s 22) ++ (w2 (((bodyZ s).size : Nat) + 8) ++ w2 0)) = _
  rw [show (((bodyZ s).size : Nat) : Int) + 8 = hfZ s 24 by rw [q5]; omega, show w2 0 = w2 (hfZ s 26) by rw [q6], hf2, hf2, hf2, hf2]; rfl
end Go.Proofs.Yteehpliloegkgaa
