/- header: the plain law of bytes. No condition. -/
import Derived.Test.YteehpliloegkgaaHdX
namespace Go.Proofs.Yteehpliloegkgaa
set_option linter.unusedVariables false
set_option linter.unusedSimpArgs false
open Go.RowKit E
/-- The first 28 bytes. -/
def l28 (s : ByteArray) : List Int := [byteAt s 0, byteAt s 1, byteAt s 2, byteAt s 3, byteAt s 4, byteAt s 5, byteAt s 6, byteAt s 7, byteAt s 8, byteAt s 9, byteAt s 10, byteAt s 11, byteAt s 12, byteAt s 13, byteAt s 14, byteAt s 15, byteAt s 16, byteAt s 17, byteAt s 18, byteAt s 19, byteAt s 20, byteAt s 21, byteAt s 22, byteAt s 23, byteAt s 24, byteAt s 25, byteAt s 26, byteAt s 27]
theorem l28_map (s : ByteArray) : l28 s = (List.range 28).map (fun i => byteAt s ((i : Nat) : Int)) := rfl
theorem ints_at (s : ByteArray) (i : Nat) (h : i < (ints s).length) : (ints s)[i] = byteAt s (i : Nat) := by
  have h' : i < s.data.toList.length := by rw [ints_len] at h; simpa using h
  unfold byteAt
  rw [Int.toNat_natCast, List.getD_eq_getElem?_getD, List.getElem?_eq_getElem h']
  simp [ints]
theorem take28 (s : ByteArray) (h : 28 ≤ s.size) : (ints s).take 28 = l28 s := by
  rw [l28_map]
  apply List.ext_getElem
  · rw [List.length_take, ints_len, List.length_map, List.length_range]; omega
  · intro i h1 h2
    rw [List.getElem_take, ints_at, List.getElem_map, List.getElem_range]
theorem ints_cut (s : ByteArray) (a b : Nat) : ints (s.extract a b) = ((ints s).drop a).take (b - a) := by
  unfold ints; rw [ext_toList, List.map_take, List.map_drop]
theorem ints_28 (s : ByteArray) (h : 28 ≤ s.size) : ints s = l28 s ++ ints (bodyZ s) := by
  unfold bodyZ
  rw [ints_cut, List.take_of_length_le (by rw [List.length_drop, ints_len]; omega), ← take28 s h, List.take_append_drop]
end Go.Proofs.Yteehpliloegkgaa
