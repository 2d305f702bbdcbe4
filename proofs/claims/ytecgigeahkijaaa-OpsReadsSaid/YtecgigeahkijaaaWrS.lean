/- Runs of Go code, as printed by a program: no condition beyond those that each states. -/
import Derived.Test.YtecgigeahkijaaaWrR
import Derived.Test.YtecgigeahkijaaaChecked
import Derived.KernelRfl
namespace Go.Proofs.Ytecgigeahkijaaa
set_option linter.unusedVariables false
set_option linter.unusedSimpArgs false
set_option maxRecDepth 100000
open Go.RowKit E
set_option maxHeartbeats 2000000 in
theorem by_l (k : Int) (h : k < 1) : PureOk Try.prog 31 ([iA k]) (iA 0) :=
  pure_run G0_ok Try.func31 (orc := ⟨[true, true], []⟩) (obl := [decide (k < (1 : Int)) = true,
      true = true,
      (0 : Int) = (0 : Int)]) (by kernel_rfl) (.cons (by exact decide_eq_true (by omega)) (.cons (by rfl) (.cons (by rfl) .nil)))

set_option maxHeartbeats 2000000 in
theorem by_h (k : Int) (h : 4 < k) : PureOk Try.prog 31 ([iA k]) (iA 0) :=
  pure_run G0_ok Try.func31 (orc := ⟨[false, true], []⟩) (obl := [decide (k < (1 : Int)) = false,
      decide (k > (4 : Int)) = true,
      (0 : Int) = (0 : Int)]) (by kernel_rfl) (.cons (by exact decide_eq_false (by omega)) (.cons (by exact decide_eq_true (by omega)) (.cons (by rfl) .nil)))

set_option maxHeartbeats 2000000 in
theorem by_1  : PureOk Try.prog 31 ([iA 1]) (iA 1) :=
  pure_run G0_ok Try.func31 (orc := ⟨[false, false], []⟩) (obl := [decide ((1 : Int) < (1 : Int)) = false,
      decide ((1 : Int) > (4 : Int)) = false,
      (0 : Int) ≤ (1 : Int),
      (1 : Int) < (↑(5 : Nat) : Int),
      (1 : Nat) < (5 : Nat),
      (1 : Int) = (1 : Int)]) (by kernel_rfl) (.cons (by rfl) (.cons (by rfl) (.cons (by trivial) (.cons (by trivial) (.cons (by trivial) (.cons (by rfl) .nil))))))

set_option maxHeartbeats 2000000 in
theorem by_2  : PureOk Try.prog 31 ([iA 2]) (iA 2) :=
  pure_run G0_ok Try.func31 (orc := ⟨[false, false], []⟩) (obl := [decide ((2 : Int) < (1 : Int)) = false,
      decide ((2 : Int) > (4 : Int)) = false,
      (0 : Int) ≤ (2 : Int),
      (2 : Int) < (↑(5 : Nat) : Int),
      (2 : Nat) < (5 : Nat),
      (2 : Int) = (2 : Int)]) (by kernel_rfl) (.cons (by rfl) (.cons (by rfl) (.cons (by trivial) (.cons (by trivial) (.cons (by trivial) (.cons (by rfl) .nil))))))

set_option maxHeartbeats 2000000 in
theorem by_3  : PureOk Try.prog 31 ([iA 3]) (iA 4) :=
  pure_run G0_ok Try.func31 (orc := ⟨[false, false], []⟩) (obl := [decide ((3 : Int) < (1 : Int)) = false,
      decide ((3 : Int) > (4 : Int)) = false,
      (0 : Int) ≤ (3 : Int),
      (3 : Int) < (↑(5 : Nat) : Int),
      (3 : Nat) < (5 : Nat),
      (4 : Int) = (4 : Int)]) (by kernel_rfl) (.cons (by rfl) (.cons (by rfl) (.cons (by trivial) (.cons (by trivial) (.cons (by trivial) (.cons (by rfl) .nil))))))

set_option maxHeartbeats 2000000 in
theorem by_4  : PureOk Try.prog 31 ([iA 4]) (iA 8) :=
  pure_run G0_ok Try.func31 (orc := ⟨[false, false], []⟩) (obl := [decide ((4 : Int) < (1 : Int)) = false,
      decide ((4 : Int) > (4 : Int)) = false,
      (0 : Int) ≤ (4 : Int),
      (4 : Int) < (↑(5 : Nat) : Int),
      (4 : Nat) < (5 : Nat),
      (8 : Int) = (8 : Int)]) (by kernel_rfl) (.cons (by rfl) (.cons (by rfl) (.cons (by trivial) (.cons (by trivial) (.cons (by trivial) (.cons (by rfl) .nil))))))

set_option maxHeartbeats 2000000 in
theorem hi_0 (n : Int) : PureOk Try.prog 39 ([uA n, iA 0]) (sA ⟨#[]⟩) :=
  pure_run Gb8_ok Try.func39 (orc := ⟨[true], []⟩) (obl := [((0 : Int) == (0 : Int)) = true,
      (ByteArray.mk #[]) = (ByteArray.mk #[])]) (by kernel_rfl) (.cons (by rfl) (.cons (by rfl) .nil))

set_option maxHeartbeats 2000000 in
theorem hi_s (N w : Nat) (n : Int) (ih : SpOk Try.prog 39 (pureS (gHighN N))) (h0 : 0 ≤ n) (h1 : n ≤ 18446744073709551615) (hw : w ≤ N) (hw8 : w < 8) (r : ByteArray) (ew : IntKind.wrap IntKind.i64 (((w + 1 : Nat) : Int) - 1) = w) (e1 : IntKind.wrap IntKind.u64 (Int.tdiv n 256) = n / 256) (e2 : IntKind.wrap IntKind.u8 (Int.tmod n 256) = n % 256) (er : strL (hiL w (n / 256)) ++ strL [n % 256] = r) (hz : ((strL (hiL w (n / 256))).size : Int) + 1 ≤ 9223372036854775807) : PureOk Try.prog 39 ([uA n, iA (w + 1 : Nat)]) (sA r) :=
  pure_run (Ghi_ok N ih) Try.func39 (orc := ⟨[false], []⟩) (obl := [((↑(w + (1 : Nat)) : Int) == (0 : Int)) = false,
      (256 : Int) ≠ (0 : Int),
      (0 : Int) ≤ IntKind.wrap IntKind.u64 (Int.tdiv n (256 : Int)),
      IntKind.wrap IntKind.u64 (Int.tdiv n (256 : Int)) ≤ (18446744073709551615 : Int),
      (0 : Int) ≤ IntKind.wrap IntKind.i64 ((↑(w + (1 : Nat)) : Int) - (1 : Int)),
      Int.toNat (IntKind.wrap IntKind.i64 ((↑(w + (1 : Nat)) : Int) - (1 : Int))) ≤ N,
      IntKind.wrap IntKind.i64 ((↑(w + (1 : Nat)) : Int) - (1 : Int)) ≤ (8 : Int),
      (256 : Int) ≠ (0 : Int),
      bytesG (1 : Nat) (litG (1 : Nat) [At.val (Value.int IntKind.u8 (IntKind.wrap IntKind.u8 (Int.tmod n (256 : Int))))]),
      (↑(ByteArray.size (strL (hiL (Int.toNat (IntKind.wrap IntKind.i64 ((↑(w + (1 : Nat)) : Int) - (1 : Int)))) (IntKind.wrap IntKind.u64 (Int.tdiv n (256 : Int))))) + ByteArray.size (rowStr (1 : Nat) (litG (1 : Nat) [At.val (Value.int IntKind.u8 (IntKind.wrap IntKind.u8 (Int.tmod n (256 : Int))))]))) : Int) ≤ IntKind.max IntKind.i64,
      strL (hiL (Int.toNat (IntKind.wrap IntKind.i64 ((↑(w + (1 : Nat)) : Int) - (1 : Int)))) (IntKind.wrap IntKind.u64 (Int.tdiv n (256 : Int)))) ++ rowStr (1 : Nat) (litG (1 : Nat) [At.val (Value.int IntKind.u8 (IntKind.wrap IntKind.u8 (Int.tmod n (256 : Int))))]) = r]) (by kernel_rfl) (.cons (by rfl) (.cons (by trivial) (.cons (by (rw [e1]; omega)) (.cons (by (rw [e1]; omega)) (.cons (by (rw [ew]; omega)) (.cons (by (rw [ew]; omega)) (.cons (by (rw [ew]; omega)) (.cons (by trivial) (.cons (by exact bytes_lit _) (.cons (by (simp only [ew, e1, Int.toNat_natCast]; rw [row_lit e2 (by omega), strL_size [n % 256]]; exact hz)) (.cons (by (simp only [ew, e1, Int.toNat_natCast]; rw [row_lit e2 (by omega)]; exact er)) .nil)))))))))))

set_option maxHeartbeats 2000000 in
theorem fe_0 (n : Int) (h0 : 0 ≤ n) (h : n < 128) (r : ByteArray) (er : strL [n] = r) : PureOk Try.prog 38 ([uA n]) (sA r) :=
  pure_run Gb8_ok Try.func38 (orc := ⟨[true], []⟩) (obl := [decide (n < (128 : Int)) = true,
      bytesG (1 : Nat) (litG (1 : Nat) [At.val (Value.int IntKind.u8 (IntKind.wrap IntKind.u8 n))]),
      rowStr (1 : Nat) (litG (1 : Nat) [At.val (Value.int IntKind.u8 (IntKind.wrap IntKind.u8 n))]) = r]) (by kernel_rfl) (.cons (by exact decide_eq_true (by omega)) (.cons (by exact bytes_lit _) (.cons (by (rw [row_lit (wU8 (b := n) rfl (by omega)) (by omega)]; exact er)) .nil)))

set_option maxHeartbeats 2000000 in
theorem fe_s (N : Nat) (n : Int) (hN : N ≤ 100) (ih : SpOk Try.prog 38 (pureS (gFewN N))) (h : 128 ≤ n) (h1 : n ≤ 18446744073709551615) (hb : n / 128 < 2 * 128 ^ N) (e1 : IntKind.wrap IntKind.u64 (Int.tdiv n 128) = n / 128) (e2 : IntKind.wrap IntKind.u8 (IntKind.wrap IntKind.u64 (128 + Int.tmod n 128)) = n % 128 + 128) (hz : 1 + ((strL (varL N (n / 128))).size : Int) ≤ 9223372036854775807) (r : ByteArray) (er : strL [n % 128 + 128] ++ strL (varL N (n / 128)) = r) : PureOk Try.prog 38 ([uA n]) (sA r) :=
  pure_run (Gfew_ok N ih) Try.func38 (orc := ⟨[false], []⟩) (obl := [decide (n < (128 : Int)) = false,
      (128 : Int) ≠ (0 : Int),
      bytesG (1 : Nat) (litG (1 : Nat) [At.val (Value.int IntKind.u8 (IntKind.wrap IntKind.u8 (IntKind.wrap IntKind.u64 ((128 : Int) + Int.tmod n (128 : Int)))))]),
      (128 : Int) ≠ (0 : Int),
      (0 : Int) ≤ IntKind.wrap IntKind.u64 (Int.tdiv n (128 : Int)),
      IntKind.wrap IntKind.u64 (Int.tdiv n (128 : Int)) ≤ (18446744073709551615 : Int),
      IntKind.wrap IntKind.u64 (Int.tdiv n (128 : Int)) < (2 : Int) * (128 : Int) ^ N,
      N ≤ (100 : Nat),
      (↑(ByteArray.size (rowStr (1 : Nat) (litG (1 : Nat) [At.val (Value.int IntKind.u8 (IntKind.wrap IntKind.u8 (IntKind.wrap IntKind.u64 ((128 : Int) + Int.tmod n (128 : Int)))))])) + ByteArray.size (strL (varL N (IntKind.wrap IntKind.u64 (Int.tdiv n (128 : Int)))))) : Int) ≤ IntKind.max IntKind.i64,
      rowStr (1 : Nat) (litG (1 : Nat) [At.val (Value.int IntKind.u8 (IntKind.wrap IntKind.u8 (IntKind.wrap IntKind.u64 ((128 : Int) + Int.tmod n (128 : Int)))))]) ++ strL (varL N (IntKind.wrap IntKind.u64 (Int.tdiv n (128 : Int)))) = r]) (by kernel_rfl) (.cons (by exact decide_eq_false (by omega)) (.cons (by trivial) (.cons (by exact bytes_lit _) (.cons (by trivial) (.cons (by (rw [e1]; omega)) (.cons (by (rw [e1]; omega)) (.cons (by (rw [e1]; omega)) (.cons (by assumption) (.cons (by (rw [e1, row_lit e2 (by omega), strL_size [n % 128 + 128]]; exact hz)) (.cons (by (rw [e1, row_lit e2 (by omega)]; exact er)) .nil))))))))))
end Go.Proofs.Ytecgigeahkijaaa
