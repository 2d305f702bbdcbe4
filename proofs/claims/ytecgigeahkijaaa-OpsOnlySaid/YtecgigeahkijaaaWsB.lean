/- Runs of Go code, as printed by a program: no condition beyond those that each states. -/
import Derived.Test.YtecgigeahkijaaaWrY
import Derived.Test.YtecgigeahkijaaaChecked
import Derived.KernelRfl
import Derived.Test.YtecgigeahkijaaaED
namespace Go.Proofs.Ytecgigeahkijaaa
set_option linter.unusedVariables false
set_option linter.unusedSimpArgs false
set_option maxRecDepth 100000
open Go.RowKit E
set_option maxHeartbeats 2000000 in
theorem fx_n (s : ByteArray) (w x y : Int) (i : Nat) (hi : (i : Int) < w) (hs : w ≤ s.size) (hz : s.size ≤ 140737488355328) (ey : bits BinOp.or IntKind.u64 (IntKind.wrap IntKind.u64 (x * (2 : Int) ^ (8 : Nat))) (IntKind.wrap IntKind.u64 (byteAt s (i : Int))) = y) : CodeOk Try.prog 0 (loopOf Try.f40 0) (mkSt 27 [(0, sA s), (1, iA w), (7, uA x), (13, iA w), (14, iA i)] []) .normal (mkSt 27 [(0, sA s), (1, iA w), (7, uA y), (13, iA w), (14, iA (i + 1 : Nat))] []) :=
  code_run GbB_ok (orc := ⟨[true], []⟩) (obl := [decide ((↑i : Int) < w) = true,
      (0 : Int) ≤ (8 : Int),
      (0 : Int) ≤ (↑i : Int),
      (↑i : Int) < (↑(ByteArray.size s) : Int),
      s = s,
      w = w,
      bits BinOp.or IntKind.u64 (IntKind.wrap IntKind.u64 (x * (2 : Int) ^ (8 : Nat))) (IntKind.wrap IntKind.u64 (byteAt s (↑i : Int))) = y,
      w = w,
      IntKind.wrap IntKind.i64 ((↑i : Int) + (1 : Int)) = (↑(i + (1 : Nat)) : Int)]) (by kernel_rfl) (.cons (by exact decide_eq_true (by omega)) (.cons (by trivial) (.cons (by omega) (.cons (by omega) (.cons (by rfl) (.cons (by rfl) (.cons (by assumption) (.cons (by rfl) (.cons (by exact w64 (by omega) (by omega)) .nil))))))))) (Nat.le_of_ble_eq_true (by kernel_rfl))

set_option maxHeartbeats 2000000 in
theorem fx_e (s : ByteArray) (w x : Int) : CodeOk Try.prog 0 (loopOf Try.f40 0) (mkSt 27 [(0, sA s), (1, iA w), (7, uA x), (13, iA w), (14, iA w)] []) (.exit 0) (mkSt 27 [(1, iA w), (7, uA x)] []) :=
  code_run GbB_ok (orc := ⟨[false], []⟩) (obl := [decide (w < w) = false,
      w = w,
      x = x]) (by kernel_rfl) (.cons (by exact decide_eq_false (by omega)) (.cons (by rfl) (.cons (by rfl) .nil))) (Nat.le_of_ble_eq_true (by kernel_rfl))

set_option maxHeartbeats 2000000 in
theorem fx_k (s : ByteArray) (w x : Int) (h : ¬ (s.size : Int) < w) (l0 : CodeOk Try.prog 0 (.loop (loopOf Try.f40 0)) (mkSt 27 [(0, sA s), (1, iA w), (7, uA 0), (13, iA w), (14, iA (0 : Nat))] []) (.exit 0) (mkSt 27 [(1, iA w), (7, uA x)] [])) : PureOk Try.prog 40 ([sA s, iA w]) (.tup [.one (.val (.int .u64 x)), .one (.val (.int .i64 w)), .one (.val (.int .i64 0))]) :=
  pure_run GbB_ok Try.func40 (orc := ⟨[false], [⟨mkSt 27 [(0, sA s), (1, iA w), (7, uA 0), (13, iA w), (14, iA (0 : Nat))] [], .exit 0, mkSt 27 [(1, iA w), (7, uA x)] []⟩]⟩) (obl := [decide ((↑(ByteArray.size s) : Int) < w) = false,
      s = s,
      w = w,
      (0 : Int) = (0 : Int),
      w = w,
      (0 : Int) = (↑(0 : Nat) : Int),
      (0 : Nat) ≤ (0 : Nat),
      CodeOk Try.prog (0 : Nat) (Code.loop (loopOf Try.f40 (0 : Nat))) (mkSt (27 : Nat) [((0 : Nat), sA s), ((1 : Nat), iA w), ((7 : Nat), uA (0 : Int)), ((13 : Nat), iA w), ((14 : Nat), iA (↑(0 : Nat) : Int))] []) (Ex.exit (0 : Nat)) (mkSt (27 : Nat) [((1 : Nat), iA w), ((7 : Nat), uA x)] []),
      x = x,
      w = w,
      (0 : Int) = (0 : Int)]) (by kernel_rfl) (.cons (by exact decide_eq_false (by omega)) (.cons (by rfl) (.cons (by rfl) (.cons (by rfl) (.cons (by rfl) (.cons (by rfl) (.cons (by trivial) (.cons (by assumption) (.cons (by rfl) (.cons (by rfl) (.cons (by rfl) .nil)))))))))))

set_option maxHeartbeats 2000000 in
theorem fx_s (s : ByteArray) (w : Int) (h : (s.size : Int) < w) : PureOk Try.prog 40 ([sA s, iA w]) (.tup [.one (.val (.int .u64 0)), .one (.val (.int .i64 0)), .one (.val (.int .i64 2))]) :=
  pure_run GbB_ok Try.func40 (orc := ⟨[true], []⟩) (obl := [decide ((↑(ByteArray.size s) : Int) < w) = true,
      (0 : Int) = (0 : Int),
      (0 : Int) = (0 : Int),
      (2 : Int) = (2 : Int)]) (by kernel_rfl) (.cons (by exact decide_eq_true (by omega)) (.cons (by rfl) (.cons (by rfl) (.cons (by rfl) .nil))))

set_option maxHeartbeats 2000000 in
theorem nb_n1 (s : ByteArray) (x y c : Int) (i : Nat) (h9 : i ≠ 9) (h0 : 0 < i) (hi : i < s.size) (hz : s.size ≤ 140737488355328) (ec : IntKind.wrap IntKind.u64 (byteAt s (i : Int)) = c) (c0 : 0 ≤ c) (c1 : c < 256) (hc : 128 ≤ c) (ey : bits BinOp.or IntKind.u64 x (IntKind.wrap IntKind.u64 ((IntKind.wrap IntKind.u64 (IntKind.wrap IntKind.u64 (byteAt s (i : Int)) - 128)) * 2 ^ Nat.min (IntKind.wrap IntKind.i64 (7 * (i : Int))).toNat 64)) = y) (e7 : 0 ≤ IntKind.wrap IntKind.i64 (7 * (i : Int))) : CodeOk Try.prog 0 (loopOf Try.f41 0) (mkSt 49 [(0, sA s), (5, uA x), (9, iA s.size), (10, iA i)] []) .normal (mkSt 49 [(0, sA s), (5, uA y), (9, iA s.size), (10, iA (i + 1 : Nat))] []) :=
  code_run GbB_ok (orc := ⟨[true, false, false, true, false, false], []⟩) (obl := [decide ((↑i : Int) < (↑(ByteArray.size s) : Int)) = true,
      (0 : Int) ≤ (↑i : Int),
      (↑i : Int) < (↑(ByteArray.size s) : Int),
      ((↑i : Int) == (9 : Int)) = false,
      false = false,
      decide ((↑i : Int) > (0 : Int)) = true,
      (IntKind.wrap IntKind.u64 (byteAt s (↑i : Int)) == (0 : Int)) = false,
      decide (IntKind.wrap IntKind.u64 (byteAt s (↑i : Int)) < (128 : Int)) = false,
      (0 : Int) ≤ IntKind.wrap IntKind.i64 ((7 : Int) * (↑i : Int)),
      s = s,
      bits BinOp.or IntKind.u64 x (IntKind.wrap IntKind.u64 (IntKind.wrap IntKind.u64 (IntKind.wrap IntKind.u64 (byteAt s (↑i : Int)) - (128 : Int)) * (2 : Int) ^ min (Int.toNat (IntKind.wrap IntKind.i64 ((7 : Int) * (↑i : Int)))) (IntKind.bits IntKind.u64))) = y,
      (↑(ByteArray.size s) : Int) = (↑(ByteArray.size s) : Int),
      IntKind.wrap IntKind.i64 ((↑i : Int) + (1 : Int)) = (↑(i + (1 : Nat)) : Int)]) (by kernel_rfl) (.cons (by exact decide_eq_true (by omega)) (.cons (by omega) (.cons (by omega) (.cons (by exact decide_eq_false (by omega)) (.cons (by rfl) (.cons (by exact decide_eq_true (by omega)) (.cons (by (rw [ec]; exact beq_eq_false_iff_ne.2 (by omega))) (.cons (by (rw [ec]; exact decide_eq_false (by omega))) (.cons (by assumption) (.cons (by rfl) (.cons (by assumption) (.cons (by rfl) (.cons (by exact w64 (by omega) (by omega)) .nil))))))))))))) (Nat.le_of_ble_eq_true (by kernel_rfl))

set_option maxHeartbeats 2000000 in
theorem nb_k1 (s : ByteArray) (x y c : Int) (i : Nat) (h9 : i ≠ 9) (h0 : 0 < i) (hi : i < s.size) (hz : s.size ≤ 140737488355328) (ec : IntKind.wrap IntKind.u64 (byteAt s (i : Int)) = c) (c0 : 0 ≤ c) (c1 : c < 256) (hc : c < 128) (hc0 : c ≠ 0) (ey : bits BinOp.or IntKind.u64 x (IntKind.wrap IntKind.u64 ((IntKind.wrap IntKind.u64 (byteAt s (i : Int))) * 2 ^ Nat.min (IntKind.wrap IntKind.i64 (7 * (i : Int))).toNat 64)) = y) (e7 : 0 ≤ IntKind.wrap IntKind.i64 (7 * (i : Int))) : CodeOk Try.prog 0 (loopOf Try.f41 0) (mkSt 49 [(0, sA s), (5, uA x), (9, iA s.size), (10, iA i)] []) .ret (mkSt 49 [(2, uA y), (3, iA (i + 1 : Nat)), (4, iA 0)] []) :=
  code_run GbB_ok (orc := ⟨[true, false, false, true, false, true], []⟩) (obl := [decide ((↑i : Int) < (↑(ByteArray.size s) : Int)) = true,
      (0 : Int) ≤ (↑i : Int),
      (↑i : Int) < (↑(ByteArray.size s) : Int),
      ((↑i : Int) == (9 : Int)) = false,
      false = false,
      decide ((↑i : Int) > (0 : Int)) = true,
      (IntKind.wrap IntKind.u64 (byteAt s (↑i : Int)) == (0 : Int)) = false,
      decide (IntKind.wrap IntKind.u64 (byteAt s (↑i : Int)) < (128 : Int)) = true,
      (0 : Int) ≤ IntKind.wrap IntKind.i64 ((7 : Int) * (↑i : Int)),
      bits BinOp.or IntKind.u64 x (IntKind.wrap IntKind.u64 (IntKind.wrap IntKind.u64 (byteAt s (↑i : Int)) * (2 : Int) ^ min (Int.toNat (IntKind.wrap IntKind.i64 ((7 : Int) * (↑i : Int)))) (IntKind.bits IntKind.u64))) = y,
      IntKind.wrap IntKind.i64 ((↑i : Int) + (1 : Int)) = (↑(i + (1 : Nat)) : Int),
      (0 : Int) = (0 : Int)]) (by kernel_rfl) (.cons (by exact decide_eq_true (by omega)) (.cons (by omega) (.cons (by omega) (.cons (by exact decide_eq_false (by omega)) (.cons (by rfl) (.cons (by exact decide_eq_true (by omega)) (.cons (by (rw [ec]; exact beq_eq_false_iff_ne.2 (by omega))) (.cons (by (rw [ec]; exact decide_eq_true (by omega))) (.cons (by assumption) (.cons (by assumption) (.cons (by exact w64 (by omega) (by omega)) (.cons (by rfl) .nil)))))))))))) (Nat.le_of_ble_eq_true (by kernel_rfl))

set_option maxHeartbeats 2000000 in
theorem nb_z1 (s : ByteArray) (x c : Int) (i : Nat) (h9 : i ≠ 9) (h0 : 0 < i) (hi : i < s.size) (hz : s.size ≤ 140737488355328) (ec : IntKind.wrap IntKind.u64 (byteAt s (i : Int)) = c) (c0 : 0 ≤ c) (c1 : c < 256) (hc : c = 0) : CodeOk Try.prog 0 (loopOf Try.f41 0) (mkSt 49 [(0, sA s), (5, uA x), (9, iA s.size), (10, iA i)] []) .ret (mkSt 49 [(2, uA 0), (3, iA 0), (4, iA 3)] []) :=
  code_run GbB_ok (orc := ⟨[true, false, false, true, true], []⟩) (obl := [decide ((↑i : Int) < (↑(ByteArray.size s) : Int)) = true,
      (0 : Int) ≤ (↑i : Int),
      (↑i : Int) < (↑(ByteArray.size s) : Int),
      ((↑i : Int) == (9 : Int)) = false,
      false = false,
      decide ((↑i : Int) > (0 : Int)) = true,
      (IntKind.wrap IntKind.u64 (byteAt s (↑i : Int)) == (0 : Int)) = true,
      (0 : Int) = (0 : Int),
      (0 : Int) = (0 : Int),
      (3 : Int) = (3 : Int)]) (by kernel_rfl) (.cons (by exact decide_eq_true (by omega)) (.cons (by omega) (.cons (by omega) (.cons (by exact decide_eq_false (by omega)) (.cons (by rfl) (.cons (by exact decide_eq_true (by omega)) (.cons (by (rw [ec]; exact beq_iff_eq.2 (by omega))) (.cons (by rfl) (.cons (by rfl) (.cons (by rfl) .nil)))))))))) (Nat.le_of_ble_eq_true (by kernel_rfl))

set_option maxHeartbeats 2000000 in
theorem nb_n2 (s : ByteArray) (x y c : Int) (i : Nat) (h0 : i = 0) (hi : i < s.size) (hz : s.size ≤ 140737488355328) (ec : IntKind.wrap IntKind.u64 (byteAt s (i : Int)) = c) (c0 : 0 ≤ c) (c1 : c < 256) (hc : 128 ≤ c) (ey : bits BinOp.or IntKind.u64 x (IntKind.wrap IntKind.u64 ((IntKind.wrap IntKind.u64 (IntKind.wrap IntKind.u64 (byteAt s (i : Int)) - 128)) * 2 ^ Nat.min (IntKind.wrap IntKind.i64 (7 * (i : Int))).toNat 64)) = y) (e7 : 0 ≤ IntKind.wrap IntKind.i64 (7 * (i : Int))) : CodeOk Try.prog 0 (loopOf Try.f41 0) (mkSt 49 [(0, sA s), (5, uA x), (9, iA s.size), (10, iA i)] []) .normal (mkSt 49 [(0, sA s), (5, uA y), (9, iA s.size), (10, iA (i + 1 : Nat))] []) :=
  code_run GbB_ok (orc := ⟨[true, false, false, false, false, false], []⟩) (obl := [decide ((↑i : Int) < (↑(ByteArray.size s) : Int)) = true,
      (0 : Int) ≤ (↑i : Int),
      (↑i : Int) < (↑(ByteArray.size s) : Int),
      ((↑i : Int) == (9 : Int)) = false,
      false = false,
      decide ((↑i : Int) > (0 : Int)) = false,
      false = false,
      decide (IntKind.wrap IntKind.u64 (byteAt s (↑i : Int)) < (128 : Int)) = false,
      (0 : Int) ≤ IntKind.wrap IntKind.i64 ((7 : Int) * (↑i : Int)),
      s = s,
      bits BinOp.or IntKind.u64 x (IntKind.wrap IntKind.u64 (IntKind.wrap IntKind.u64 (IntKind.wrap IntKind.u64 (byteAt s (↑i : Int)) - (128 : Int)) * (2 : Int) ^ min (Int.toNat (IntKind.wrap IntKind.i64 ((7 : Int) * (↑i : Int)))) (IntKind.bits IntKind.u64))) = y,
      (↑(ByteArray.size s) : Int) = (↑(ByteArray.size s) : Int),
      IntKind.wrap IntKind.i64 ((↑i : Int) + (1 : Int)) = (↑(i + (1 : Nat)) : Int)]) (by kernel_rfl) (.cons (by exact decide_eq_true (by omega)) (.cons (by omega) (.cons (by omega) (.cons (by exact decide_eq_false (by omega)) (.cons (by rfl) (.cons (by exact decide_eq_false (by omega)) (.cons (by rfl) (.cons (by (rw [ec]; exact decide_eq_false (by omega))) (.cons (by assumption) (.cons (by rfl) (.cons (by assumption) (.cons (by rfl) (.cons (by exact w64 (by omega) (by omega)) .nil))))))))))))) (Nat.le_of_ble_eq_true (by kernel_rfl))

set_option maxHeartbeats 2000000 in
theorem nb_k2 (s : ByteArray) (x y c : Int) (i : Nat) (h0 : i = 0) (hi : i < s.size) (hz : s.size ≤ 140737488355328) (ec : IntKind.wrap IntKind.u64 (byteAt s (i : Int)) = c) (c0 : 0 ≤ c) (c1 : c < 256) (hc : c < 128) (ey : bits BinOp.or IntKind.u64 x (IntKind.wrap IntKind.u64 ((IntKind.wrap IntKind.u64 (byteAt s (i : Int))) * 2 ^ Nat.min (IntKind.wrap IntKind.i64 (7 * (i : Int))).toNat 64)) = y) (e7 : 0 ≤ IntKind.wrap IntKind.i64 (7 * (i : Int))) : CodeOk Try.prog 0 (loopOf Try.f41 0) (mkSt 49 [(0, sA s), (5, uA x), (9, iA s.size), (10, iA i)] []) .ret (mkSt 49 [(2, uA y), (3, iA (i + 1 : Nat)), (4, iA 0)] []) :=
  code_run GbB_ok (orc := ⟨[true, false, false, false, false, true], []⟩) (obl := [decide ((↑i : Int) < (↑(ByteArray.size s) : Int)) = true,
      (0 : Int) ≤ (↑i : Int),
      (↑i : Int) < (↑(ByteArray.size s) : Int),
      ((↑i : Int) == (9 : Int)) = false,
      false = false,
      decide ((↑i : Int) > (0 : Int)) = false,
      false = false,
      decide (IntKind.wrap IntKind.u64 (byteAt s (↑i : Int)) < (128 : Int)) = true,
      (0 : Int) ≤ IntKind.wrap IntKind.i64 ((7 : Int) * (↑i : Int)),
      bits BinOp.or IntKind.u64 x (IntKind.wrap IntKind.u64 (IntKind.wrap IntKind.u64 (byteAt s (↑i : Int)) * (2 : Int) ^ min (Int.toNat (IntKind.wrap IntKind.i64 ((7 : Int) * (↑i : Int)))) (IntKind.bits IntKind.u64))) = y,
      IntKind.wrap IntKind.i64 ((↑i : Int) + (1 : Int)) = (↑(i + (1 : Nat)) : Int),
      (0 : Int) = (0 : Int)]) (by kernel_rfl) (.cons (by exact decide_eq_true (by omega)) (.cons (by omega) (.cons (by omega) (.cons (by exact decide_eq_false (by omega)) (.cons (by rfl) (.cons (by exact decide_eq_false (by omega)) (.cons (by rfl) (.cons (by (rw [ec]; exact decide_eq_true (by omega))) (.cons (by assumption) (.cons (by assumption) (.cons (by exact w64 (by omega) (by omega)) (.cons (by rfl) .nil)))))))))))) (Nat.le_of_ble_eq_true (by kernel_rfl))

set_option maxHeartbeats 2000000 in
theorem nb_k3 (s : ByteArray) (x y c : Int) (i : Nat) (h9 : i = 9) (hi : i < s.size) (hz : s.size ≤ 140737488355328) (ec : IntKind.wrap IntKind.u64 (byteAt s (i : Int)) = c) (c0 : 0 ≤ c) (c1 : c < 256) (hc : c < 128) (hc0 : c ≠ 0) (hc1 : c ≤ 1) (ey : bits BinOp.or IntKind.u64 x (IntKind.wrap IntKind.u64 ((IntKind.wrap IntKind.u64 (byteAt s (i : Int))) * 2 ^ Nat.min (IntKind.wrap IntKind.i64 (7 * (i : Int))).toNat 64)) = y) (e7 : 0 ≤ IntKind.wrap IntKind.i64 (7 * (i : Int))) : CodeOk Try.prog 0 (loopOf Try.f41 0) (mkSt 49 [(0, sA s), (5, uA x), (9, iA s.size), (10, iA i)] []) .ret (mkSt 49 [(2, uA y), (3, iA (i + 1 : Nat)), (4, iA 0)] []) :=
  code_run GbB_ok (orc := ⟨[true, true, false, true, false, true], []⟩) (obl := [decide ((↑i : Int) < (↑(ByteArray.size s) : Int)) = true,
      (0 : Int) ≤ (↑i : Int),
      (↑i : Int) < (↑(ByteArray.size s) : Int),
      ((↑i : Int) == (9 : Int)) = true,
      decide (IntKind.wrap IntKind.u64 (byteAt s (↑i : Int)) > (1 : Int)) = false,
      decide ((↑i : Int) > (0 : Int)) = true,
      (IntKind.wrap IntKind.u64 (byteAt s (↑i : Int)) == (0 : Int)) = false,
      decide (IntKind.wrap IntKind.u64 (byteAt s (↑i : Int)) < (128 : Int)) = true,
      (0 : Int) ≤ IntKind.wrap IntKind.i64 ((7 : Int) * (↑i : Int)),
      bits BinOp.or IntKind.u64 x (IntKind.wrap IntKind.u64 (IntKind.wrap IntKind.u64 (byteAt s (↑i : Int)) * (2 : Int) ^ min (Int.toNat (IntKind.wrap IntKind.i64 ((7 : Int) * (↑i : Int)))) (IntKind.bits IntKind.u64))) = y,
      IntKind.wrap IntKind.i64 ((↑i : Int) + (1 : Int)) = (↑(i + (1 : Nat)) : Int),
      (0 : Int) = (0 : Int)]) (by kernel_rfl) (.cons (by exact decide_eq_true (by omega)) (.cons (by omega) (.cons (by omega) (.cons (by exact decide_eq_true (by omega)) (.cons (by (rw [ec]; exact decide_eq_false (by omega))) (.cons (by exact decide_eq_true (by omega)) (.cons (by (rw [ec]; exact beq_eq_false_iff_ne.2 (by omega))) (.cons (by (rw [ec]; exact decide_eq_true (by omega))) (.cons (by assumption) (.cons (by assumption) (.cons (by exact w64 (by omega) (by omega)) (.cons (by rfl) .nil)))))))))))) (Nat.le_of_ble_eq_true (by kernel_rfl))

set_option maxHeartbeats 2000000 in
theorem nb_z3 (s : ByteArray) (x c : Int) (i : Nat) (h9 : i = 9) (hi : i < s.size) (hz : s.size ≤ 140737488355328) (ec : IntKind.wrap IntKind.u64 (byteAt s (i : Int)) = c) (c0 : 0 ≤ c) (c1 : c < 256) (hc : c = 0) : CodeOk Try.prog 0 (loopOf Try.f41 0) (mkSt 49 [(0, sA s), (5, uA x), (9, iA s.size), (10, iA i)] []) .ret (mkSt 49 [(2, uA 0), (3, iA 0), (4, iA 3)] []) :=
  code_run GbB_ok (orc := ⟨[true, true, false, true, true], []⟩) (obl := [decide ((↑i : Int) < (↑(ByteArray.size s) : Int)) = true,
      (0 : Int) ≤ (↑i : Int),
      (↑i : Int) < (↑(ByteArray.size s) : Int),
      ((↑i : Int) == (9 : Int)) = true,
      decide (IntKind.wrap IntKind.u64 (byteAt s (↑i : Int)) > (1 : Int)) = false,
      decide ((↑i : Int) > (0 : Int)) = true,
      (IntKind.wrap IntKind.u64 (byteAt s (↑i : Int)) == (0 : Int)) = true,
      (0 : Int) = (0 : Int),
      (0 : Int) = (0 : Int),
      (3 : Int) = (3 : Int)]) (by kernel_rfl) (.cons (by exact decide_eq_true (by omega)) (.cons (by omega) (.cons (by omega) (.cons (by exact decide_eq_true (by omega)) (.cons (by (rw [ec]; exact decide_eq_false (by omega))) (.cons (by exact decide_eq_true (by omega)) (.cons (by (rw [ec]; exact beq_iff_eq.2 (by omega))) (.cons (by rfl) (.cons (by rfl) (.cons (by rfl) .nil)))))))))) (Nat.le_of_ble_eq_true (by kernel_rfl))

set_option maxHeartbeats 2000000 in
theorem nb_f3 (s : ByteArray) (x c : Int) (i : Nat) (h9 : i = 9) (hi : i < s.size) (hz : s.size ≤ 140737488355328) (ec : IntKind.wrap IntKind.u64 (byteAt s (i : Int)) = c) (c0 : 0 ≤ c) (c1 : c < 256) (hc : 1 < c) : CodeOk Try.prog 0 (loopOf Try.f41 0) (mkSt 49 [(0, sA s), (5, uA x), (9, iA s.size), (10, iA i)] []) .ret (mkSt 49 [(2, uA 0), (3, iA 0), (4, iA 3)] []) :=
  code_run GbB_ok (orc := ⟨[true, true, true], []⟩) (obl := [decide ((↑i : Int) < (↑(ByteArray.size s) : Int)) = true,
      (0 : Int) ≤ (↑i : Int),
      (↑i : Int) < (↑(ByteArray.size s) : Int),
      ((↑i : Int) == (9 : Int)) = true,
      decide (IntKind.wrap IntKind.u64 (byteAt s (↑i : Int)) > (1 : Int)) = true,
      (0 : Int) = (0 : Int),
      (0 : Int) = (0 : Int),
      (3 : Int) = (3 : Int)]) (by kernel_rfl) (.cons (by exact decide_eq_true (by omega)) (.cons (by omega) (.cons (by omega) (.cons (by exact decide_eq_true (by omega)) (.cons (by (rw [ec]; exact decide_eq_true (by omega))) (.cons (by rfl) (.cons (by rfl) (.cons (by rfl) .nil)))))))) (Nat.le_of_ble_eq_true (by kernel_rfl))

set_option maxHeartbeats 2000000 in
theorem nb_e (s : ByteArray) (x : Int) : CodeOk Try.prog 0 (loopOf Try.f41 0) (mkSt 49 [(0, sA s), (5, uA x), (9, iA s.size), (10, iA s.size)] []) (.exit 0) (mkSt 49 [] []) :=
  code_run GbB_ok (orc := ⟨[false], []⟩) (obl := [decide ((↑(ByteArray.size s) : Int) < (↑(ByteArray.size s) : Int)) = false]) (by kernel_rfl) (.cons (by exact decide_eq_false (by omega)) .nil) (Nat.le_of_ble_eq_true (by kernel_rfl))

set_option maxHeartbeats 2000000 in
theorem nb_r (s : ByteArray) (x n e : Int) (l0 : CodeOk Try.prog 0 (.loop (loopOf Try.f41 0)) (mkSt 49 [(0, sA s), (5, uA 0), (9, iA s.size), (10, iA (0 : Nat))] []) .ret (mkSt 49 [(2, uA x), (3, iA n), (4, iA e)] [])) : PureOk Try.prog 41 ([sA s]) (.tup [.one (.val (.int .u64 x)), .one (.val (.int .i64 n)), .one (.val (.int .i64 e))]) :=
  pure_run GbB_ok Try.func41 (orc := ⟨[], [⟨mkSt 49 [(0, sA s), (5, uA 0), (9, iA s.size), (10, iA (0 : Nat))] [], .ret, mkSt 49 [(2, uA x), (3, iA n), (4, iA e)] []⟩]⟩) (obl := [s = s,
      (0 : Int) = (0 : Int),
      (↑(ByteArray.size s) : Int) = (↑(ByteArray.size s) : Int),
      (0 : Int) = (↑(0 : Nat) : Int),
      (0 : Nat) ≤ (0 : Nat),
      CodeOk Try.prog (0 : Nat) (Code.loop (loopOf Try.f41 (0 : Nat))) (mkSt (49 : Nat) [((0 : Nat), sA s), ((5 : Nat), uA (0 : Int)), ((9 : Nat), iA (↑(ByteArray.size s) : Int)), ((10 : Nat), iA (↑(0 : Nat) : Int))] []) Ex.ret (mkSt (49 : Nat) [((2 : Nat), uA x), ((3 : Nat), iA n), ((4 : Nat), iA e)] []),
      x = x,
      n = n,
      e = e]) (by kernel_rfl) (.cons (by rfl) (.cons (by rfl) (.cons (by rfl) (.cons (by rfl) (.cons (by trivial) (.cons (by assumption) (.cons (by rfl) (.cons (by rfl) (.cons (by rfl) .nil)))))))))

set_option maxHeartbeats 2000000 in
theorem nb_s (s : ByteArray) (l0 : CodeOk Try.prog 0 (.loop (loopOf Try.f41 0)) (mkSt 49 [(0, sA s), (5, uA 0), (9, iA s.size), (10, iA (0 : Nat))] []) (.exit 0) (mkSt 49 [] [])) : PureOk Try.prog 41 ([sA s]) (.tup [.one (.val (.int .u64 0)), .one (.val (.int .i64 0)), .one (.val (.int .i64 2))]) :=
  pure_run GbB_ok Try.func41 (orc := ⟨[], [⟨mkSt 49 [(0, sA s), (5, uA 0), (9, iA s.size), (10, iA (0 : Nat))] [], .exit 0, mkSt 49 [] []⟩]⟩) (obl := [s = s,
      (0 : Int) = (0 : Int),
      (↑(ByteArray.size s) : Int) = (↑(ByteArray.size s) : Int),
      (0 : Int) = (↑(0 : Nat) : Int),
      (0 : Nat) ≤ (0 : Nat),
      CodeOk Try.prog (0 : Nat) (Code.loop (loopOf Try.f41 (0 : Nat))) (mkSt (49 : Nat) [((0 : Nat), sA s), ((5 : Nat), uA (0 : Int)), ((9 : Nat), iA (↑(ByteArray.size s) : Int)), ((10 : Nat), iA (↑(0 : Nat) : Int))] []) (Ex.exit (0 : Nat)) (mkSt (49 : Nat) [] []),
      (0 : Int) = (0 : Int),
      (0 : Int) = (0 : Int),
      (2 : Int) = (2 : Int)]) (by kernel_rfl) (.cons (by rfl) (.cons (by rfl) (.cons (by rfl) (.cons (by rfl) (.cons (by trivial) (.cons (by assumption) (.cons (by rfl) (.cons (by rfl) (.cons (by rfl) .nil)))))))))

set_option maxHeartbeats 2000000 in
theorem sv_n1 (s : ByteArray) (x y c : Int) (v u : Int) (i : Nat) (h9 : i ≠ 9) (h0 : 0 < i) (hi : i < s.size) (hz : s.size ≤ 140737488355328) (ec : IntKind.wrap IntKind.u64 (byteAt s (i : Int)) = c) (c0 : 0 ≤ c) (c1 : c < 256) (hc : 128 ≤ c) (ey : IntKind.wrap IntKind.u64 (x + IntKind.wrap IntKind.u64 (Int.tmod (IntKind.wrap IntKind.u64 (byteAt s (i : Int))) 128 * v)) = y) (eu : IntKind.wrap IntKind.u64 (v * 128) = u) (e7 : 0 ≤ IntKind.wrap IntKind.i64 (7 * (i : Int))) : CodeOk Try.prog 0 (loopOf Try.f32 0) (mkSt 46 [(0, sA s), (5, uA x), (6, uA v), (7, iA i)] []) .normal (mkSt 46 [(0, sA s), (5, uA y), (6, uA u), (7, iA (i + 1 : Nat))] []) :=
  code_run GbB_ok (orc := ⟨[true, true, false, false, false, false], []⟩) (obl := [decide ((↑i : Int) < (↑(ByteArray.size s) : Int)) = true,
      (0 : Int) ≤ (↑i : Int),
      (↑i : Int) < (↑(ByteArray.size s) : Int),
      decide ((↑i : Int) > (0 : Int)) = true,
      (IntKind.wrap IntKind.u64 (byteAt s (↑i : Int)) == (0 : Int)) = false,
      ((↑i : Int) == (9 : Int)) = false,
      false = false,
      (128 : Int) ≠ (0 : Int),
      decide (IntKind.wrap IntKind.u64 (byteAt s (↑i : Int)) < (128 : Int)) = false,
      s = s,
      IntKind.wrap IntKind.u64 (x + IntKind.wrap IntKind.u64 (Int.tmod (IntKind.wrap IntKind.u64 (byteAt s (↑i : Int))) (128 : Int) * v)) = y,
      IntKind.wrap IntKind.u64 (v * (128 : Int)) = u,
      IntKind.wrap IntKind.i64 ((↑i : Int) + (1 : Int)) = (↑(i + (1 : Nat)) : Int)]) (by kernel_rfl) (.cons (by exact decide_eq_true (by omega)) (.cons (by omega) (.cons (by omega) (.cons (by exact decide_eq_true (by omega)) (.cons (by (rw [ec]; exact beq_eq_false_iff_ne.2 (by omega))) (.cons (by exact decide_eq_false (by omega)) (.cons (by rfl) (.cons (by trivial) (.cons (by (rw [ec]; exact decide_eq_false (by omega))) (.cons (by rfl) (.cons (by assumption) (.cons (by assumption) (.cons (by exact w64 (by omega) (by omega)) .nil))))))))))))) (Nat.le_of_ble_eq_true (by kernel_rfl))

set_option maxHeartbeats 2000000 in
theorem sv_k1 (s : ByteArray) (x y c : Int) (v u : Int) (i : Nat) (h9 : i ≠ 9) (h0 : 0 < i) (hi : i < s.size) (hz : s.size ≤ 140737488355328) (ec : IntKind.wrap IntKind.u64 (byteAt s (i : Int)) = c) (c0 : 0 ≤ c) (c1 : c < 256) (hc : c < 128) (hc0 : c ≠ 0) (ey : IntKind.wrap IntKind.u64 (x + IntKind.wrap IntKind.u64 (Int.tmod (IntKind.wrap IntKind.u64 (byteAt s (i : Int))) 128 * v)) = y) (eu : IntKind.wrap IntKind.u64 (v * 128) = u) (e7 : 0 ≤ IntKind.wrap IntKind.i64 (7 * (i : Int))) : CodeOk Try.prog 0 (loopOf Try.f32 0) (mkSt 46 [(0, sA s), (5, uA x), (6, uA v), (7, iA i)] []) .ret (mkSt 46 [(2, uA y), (3, iA (i + 1 : Nat)), (4, iA 0)] []) :=
  code_run GbB_ok (orc := ⟨[true, true, false, false, false, true], []⟩) (obl := [decide ((↑i : Int) < (↑(ByteArray.size s) : Int)) = true,
      (0 : Int) ≤ (↑i : Int),
      (↑i : Int) < (↑(ByteArray.size s) : Int),
      decide ((↑i : Int) > (0 : Int)) = true,
      (IntKind.wrap IntKind.u64 (byteAt s (↑i : Int)) == (0 : Int)) = false,
      ((↑i : Int) == (9 : Int)) = false,
      false = false,
      (128 : Int) ≠ (0 : Int),
      decide (IntKind.wrap IntKind.u64 (byteAt s (↑i : Int)) < (128 : Int)) = true,
      IntKind.wrap IntKind.u64 (x + IntKind.wrap IntKind.u64 (Int.tmod (IntKind.wrap IntKind.u64 (byteAt s (↑i : Int))) (128 : Int) * v)) = y,
      IntKind.wrap IntKind.i64 ((↑i : Int) + (1 : Int)) = (↑(i + (1 : Nat)) : Int),
      (0 : Int) = (0 : Int)]) (by kernel_rfl) (.cons (by exact decide_eq_true (by omega)) (.cons (by omega) (.cons (by omega) (.cons (by exact decide_eq_true (by omega)) (.cons (by (rw [ec]; exact beq_eq_false_iff_ne.2 (by omega))) (.cons (by exact decide_eq_false (by omega)) (.cons (by rfl) (.cons (by trivial) (.cons (by (rw [ec]; exact decide_eq_true (by omega))) (.cons (by assumption) (.cons (by exact w64 (by omega) (by omega)) (.cons (by rfl) .nil)))))))))))) (Nat.le_of_ble_eq_true (by kernel_rfl))

set_option maxHeartbeats 2000000 in
theorem sv_z1 (s : ByteArray) (x c : Int) (v u : Int) (i : Nat) (h9 : i ≠ 9) (h0 : 0 < i) (hi : i < s.size) (hz : s.size ≤ 140737488355328) (ec : IntKind.wrap IntKind.u64 (byteAt s (i : Int)) = c) (c0 : 0 ≤ c) (c1 : c < 256) (hc : c = 0) : CodeOk Try.prog 0 (loopOf Try.f32 0) (mkSt 46 [(0, sA s), (5, uA x), (6, uA v), (7, iA i)] []) .ret (mkSt 46 [(2, uA 0), (3, iA 0), (4, iA 3)] []) :=
  code_run GbB_ok (orc := ⟨[true, true, true, true], []⟩) (obl := [decide ((↑i : Int) < (↑(ByteArray.size s) : Int)) = true,
      (0 : Int) ≤ (↑i : Int),
      (↑i : Int) < (↑(ByteArray.size s) : Int),
      decide ((↑i : Int) > (0 : Int)) = true,
      (IntKind.wrap IntKind.u64 (byteAt s (↑i : Int)) == (0 : Int)) = true,
      true = true,
      (0 : Int) = (0 : Int),
      (0 : Int) = (0 : Int),
      (3 : Int) = (3 : Int)]) (by kernel_rfl) (.cons (by exact decide_eq_true (by omega)) (.cons (by omega) (.cons (by omega) (.cons (by exact decide_eq_true (by omega)) (.cons (by (rw [ec]; exact beq_iff_eq.2 (by omega))) (.cons (by rfl) (.cons (by rfl) (.cons (by rfl) (.cons (by rfl) .nil))))))))) (Nat.le_of_ble_eq_true (by kernel_rfl))

set_option maxHeartbeats 2000000 in
theorem sv_n2 (s : ByteArray) (x y c : Int) (v u : Int) (i : Nat) (h0 : i = 0) (hi : i < s.size) (hz : s.size ≤ 140737488355328) (ec : IntKind.wrap IntKind.u64 (byteAt s (i : Int)) = c) (c0 : 0 ≤ c) (c1 : c < 256) (hc : 128 ≤ c) (ey : IntKind.wrap IntKind.u64 (x + IntKind.wrap IntKind.u64 (Int.tmod (IntKind.wrap IntKind.u64 (byteAt s (i : Int))) 128 * v)) = y) (eu : IntKind.wrap IntKind.u64 (v * 128) = u) (e7 : 0 ≤ IntKind.wrap IntKind.i64 (7 * (i : Int))) : CodeOk Try.prog 0 (loopOf Try.f32 0) (mkSt 46 [(0, sA s), (5, uA x), (6, uA v), (7, iA i)] []) .normal (mkSt 46 [(0, sA s), (5, uA y), (6, uA u), (7, iA (i + 1 : Nat))] []) :=
  code_run GbB_ok (orc := ⟨[true, false, false, false, false, false], []⟩) (obl := [decide ((↑i : Int) < (↑(ByteArray.size s) : Int)) = true,
      (0 : Int) ≤ (↑i : Int),
      (↑i : Int) < (↑(ByteArray.size s) : Int),
      decide ((↑i : Int) > (0 : Int)) = false,
      false = false,
      ((↑i : Int) == (9 : Int)) = false,
      false = false,
      (128 : Int) ≠ (0 : Int),
      decide (IntKind.wrap IntKind.u64 (byteAt s (↑i : Int)) < (128 : Int)) = false,
      s = s,
      IntKind.wrap IntKind.u64 (x + IntKind.wrap IntKind.u64 (Int.tmod (IntKind.wrap IntKind.u64 (byteAt s (↑i : Int))) (128 : Int) * v)) = y,
      IntKind.wrap IntKind.u64 (v * (128 : Int)) = u,
      IntKind.wrap IntKind.i64 ((↑i : Int) + (1 : Int)) = (↑(i + (1 : Nat)) : Int)]) (by kernel_rfl) (.cons (by exact decide_eq_true (by omega)) (.cons (by omega) (.cons (by omega) (.cons (by exact decide_eq_false (by omega)) (.cons (by rfl) (.cons (by exact decide_eq_false (by omega)) (.cons (by rfl) (.cons (by trivial) (.cons (by (rw [ec]; exact decide_eq_false (by omega))) (.cons (by rfl) (.cons (by assumption) (.cons (by assumption) (.cons (by exact w64 (by omega) (by omega)) .nil))))))))))))) (Nat.le_of_ble_eq_true (by kernel_rfl))

set_option maxHeartbeats 2000000 in
theorem sv_k2 (s : ByteArray) (x y c : Int) (v u : Int) (i : Nat) (h0 : i = 0) (hi : i < s.size) (hz : s.size ≤ 140737488355328) (ec : IntKind.wrap IntKind.u64 (byteAt s (i : Int)) = c) (c0 : 0 ≤ c) (c1 : c < 256) (hc : c < 128) (ey : IntKind.wrap IntKind.u64 (x + IntKind.wrap IntKind.u64 (Int.tmod (IntKind.wrap IntKind.u64 (byteAt s (i : Int))) 128 * v)) = y) (eu : IntKind.wrap IntKind.u64 (v * 128) = u) (e7 : 0 ≤ IntKind.wrap IntKind.i64 (7 * (i : Int))) : CodeOk Try.prog 0 (loopOf Try.f32 0) (mkSt 46 [(0, sA s), (5, uA x), (6, uA v), (7, iA i)] []) .ret (mkSt 46 [(2, uA y), (3, iA (i + 1 : Nat)), (4, iA 0)] []) :=
  code_run GbB_ok (orc := ⟨[true, false, false, false, false, true], []⟩) (obl := [decide ((↑i : Int) < (↑(ByteArray.size s) : Int)) = true,
      (0 : Int) ≤ (↑i : Int),
      (↑i : Int) < (↑(ByteArray.size s) : Int),
      decide ((↑i : Int) > (0 : Int)) = false,
      false = false,
      ((↑i : Int) == (9 : Int)) = false,
      false = false,
      (128 : Int) ≠ (0 : Int),
      decide (IntKind.wrap IntKind.u64 (byteAt s (↑i : Int)) < (128 : Int)) = true,
      IntKind.wrap IntKind.u64 (x + IntKind.wrap IntKind.u64 (Int.tmod (IntKind.wrap IntKind.u64 (byteAt s (↑i : Int))) (128 : Int) * v)) = y,
      IntKind.wrap IntKind.i64 ((↑i : Int) + (1 : Int)) = (↑(i + (1 : Nat)) : Int),
      (0 : Int) = (0 : Int)]) (by kernel_rfl) (.cons (by exact decide_eq_true (by omega)) (.cons (by omega) (.cons (by omega) (.cons (by exact decide_eq_false (by omega)) (.cons (by rfl) (.cons (by exact decide_eq_false (by omega)) (.cons (by rfl) (.cons (by trivial) (.cons (by (rw [ec]; exact decide_eq_true (by omega))) (.cons (by assumption) (.cons (by exact w64 (by omega) (by omega)) (.cons (by rfl) .nil)))))))))))) (Nat.le_of_ble_eq_true (by kernel_rfl))

set_option maxHeartbeats 2000000 in
theorem sv_k3 (s : ByteArray) (x y c : Int) (v u : Int) (i : Nat) (h9 : i = 9) (hi : i < s.size) (hz : s.size ≤ 140737488355328) (ec : IntKind.wrap IntKind.u64 (byteAt s (i : Int)) = c) (c0 : 0 ≤ c) (c1 : c < 256) (hc : c < 128) (hc0 : c ≠ 0) (hc1 : c ≤ 1) (ey : IntKind.wrap IntKind.u64 (x + IntKind.wrap IntKind.u64 (Int.tmod (IntKind.wrap IntKind.u64 (byteAt s (i : Int))) 128 * v)) = y) (eu : IntKind.wrap IntKind.u64 (v * 128) = u) (e7 : 0 ≤ IntKind.wrap IntKind.i64 (7 * (i : Int))) : CodeOk Try.prog 0 (loopOf Try.f32 0) (mkSt 46 [(0, sA s), (5, uA x), (6, uA v), (7, iA i)] []) .ret (mkSt 46 [(2, uA y), (3, iA (i + 1 : Nat)), (4, iA 0)] []) :=
  code_run GbB_ok (orc := ⟨[true, true, false, true, false, true], []⟩) (obl := [decide ((↑i : Int) < (↑(ByteArray.size s) : Int)) = true,
      (0 : Int) ≤ (↑i : Int),
      (↑i : Int) < (↑(ByteArray.size s) : Int),
      decide ((↑i : Int) > (0 : Int)) = true,
      (IntKind.wrap IntKind.u64 (byteAt s (↑i : Int)) == (0 : Int)) = false,
      ((↑i : Int) == (9 : Int)) = true,
      decide (IntKind.wrap IntKind.u64 (byteAt s (↑i : Int)) > (1 : Int)) = false,
      (128 : Int) ≠ (0 : Int),
      decide (IntKind.wrap IntKind.u64 (byteAt s (↑i : Int)) < (128 : Int)) = true,
      IntKind.wrap IntKind.u64 (x + IntKind.wrap IntKind.u64 (Int.tmod (IntKind.wrap IntKind.u64 (byteAt s (↑i : Int))) (128 : Int) * v)) = y,
      IntKind.wrap IntKind.i64 ((↑i : Int) + (1 : Int)) = (↑(i + (1 : Nat)) : Int),
      (0 : Int) = (0 : Int)]) (by kernel_rfl) (.cons (by exact decide_eq_true (by omega)) (.cons (by omega) (.cons (by omega) (.cons (by exact decide_eq_true (by omega)) (.cons (by (rw [ec]; exact beq_eq_false_iff_ne.2 (by omega))) (.cons (by exact decide_eq_true (by omega)) (.cons (by (rw [ec]; exact decide_eq_false (by omega))) (.cons (by trivial) (.cons (by (rw [ec]; exact decide_eq_true (by omega))) (.cons (by assumption) (.cons (by exact w64 (by omega) (by omega)) (.cons (by rfl) .nil)))))))))))) (Nat.le_of_ble_eq_true (by kernel_rfl))

set_option maxHeartbeats 2000000 in
theorem sv_z3 (s : ByteArray) (x c : Int) (v u : Int) (i : Nat) (h9 : i = 9) (hi : i < s.size) (hz : s.size ≤ 140737488355328) (ec : IntKind.wrap IntKind.u64 (byteAt s (i : Int)) = c) (c0 : 0 ≤ c) (c1 : c < 256) (hc : c = 0) : CodeOk Try.prog 0 (loopOf Try.f32 0) (mkSt 46 [(0, sA s), (5, uA x), (6, uA v), (7, iA i)] []) .ret (mkSt 46 [(2, uA 0), (3, iA 0), (4, iA 3)] []) :=
  code_run GbB_ok (orc := ⟨[true, true, true, true], []⟩) (obl := [decide ((↑i : Int) < (↑(ByteArray.size s) : Int)) = true,
      (0 : Int) ≤ (↑i : Int),
      (↑i : Int) < (↑(ByteArray.size s) : Int),
      decide ((↑i : Int) > (0 : Int)) = true,
      (IntKind.wrap IntKind.u64 (byteAt s (↑i : Int)) == (0 : Int)) = true,
      true = true,
      (0 : Int) = (0 : Int),
      (0 : Int) = (0 : Int),
      (3 : Int) = (3 : Int)]) (by kernel_rfl) (.cons (by exact decide_eq_true (by omega)) (.cons (by omega) (.cons (by omega) (.cons (by exact decide_eq_true (by omega)) (.cons (by (rw [ec]; exact beq_iff_eq.2 (by omega))) (.cons (by rfl) (.cons (by rfl) (.cons (by rfl) (.cons (by rfl) .nil))))))))) (Nat.le_of_ble_eq_true (by kernel_rfl))

set_option maxHeartbeats 2000000 in
theorem sv_f3 (s : ByteArray) (x c : Int) (v u : Int) (i : Nat) (h9 : i = 9) (hi : i < s.size) (hz : s.size ≤ 140737488355328) (ec : IntKind.wrap IntKind.u64 (byteAt s (i : Int)) = c) (c0 : 0 ≤ c) (c1 : c < 256) (hc : 1 < c) : CodeOk Try.prog 0 (loopOf Try.f32 0) (mkSt 46 [(0, sA s), (5, uA x), (6, uA v), (7, iA i)] []) .ret (mkSt 46 [(2, uA 0), (3, iA 0), (4, iA 3)] []) :=
  code_run GbB_ok (orc := ⟨[true, true, false, true, true], []⟩) (obl := [decide ((↑i : Int) < (↑(ByteArray.size s) : Int)) = true,
      (0 : Int) ≤ (↑i : Int),
      (↑i : Int) < (↑(ByteArray.size s) : Int),
      decide ((↑i : Int) > (0 : Int)) = true,
      (IntKind.wrap IntKind.u64 (byteAt s (↑i : Int)) == (0 : Int)) = false,
      ((↑i : Int) == (9 : Int)) = true,
      decide (IntKind.wrap IntKind.u64 (byteAt s (↑i : Int)) > (1 : Int)) = true,
      (0 : Int) = (0 : Int),
      (0 : Int) = (0 : Int),
      (3 : Int) = (3 : Int)]) (by kernel_rfl) (.cons (by exact decide_eq_true (by omega)) (.cons (by omega) (.cons (by omega) (.cons (by exact decide_eq_true (by omega)) (.cons (by (rw [ec]; exact beq_eq_false_iff_ne.2 (by omega))) (.cons (by exact decide_eq_true (by omega)) (.cons (by (rw [ec]; exact decide_eq_true (by omega))) (.cons (by rfl) (.cons (by rfl) (.cons (by rfl) .nil)))))))))) (Nat.le_of_ble_eq_true (by kernel_rfl))

set_option maxHeartbeats 2000000 in
theorem sv_e (s : ByteArray) (x : Int) (v u : Int) : CodeOk Try.prog 0 (loopOf Try.f32 0) (mkSt 46 [(0, sA s), (5, uA x), (6, uA v), (7, iA s.size)] []) (.exit 0) (mkSt 46 [] []) :=
  code_run GbB_ok (orc := ⟨[false], []⟩) (obl := [decide ((↑(ByteArray.size s) : Int) < (↑(ByteArray.size s) : Int)) = false]) (by kernel_rfl) (.cons (by exact decide_eq_false (by omega)) .nil) (Nat.le_of_ble_eq_true (by kernel_rfl))

set_option maxHeartbeats 2000000 in
theorem sv_r (s : ByteArray) (x n e : Int) (l0 : CodeOk Try.prog 0 (.loop (loopOf Try.f32 0)) (mkSt 46 [(0, sA s), (5, uA 0), (6, uA 1), (7, iA (0 : Nat))] []) .ret (mkSt 46 [(2, uA x), (3, iA n), (4, iA e)] [])) : PureOk Try.prog 32 ([sA s]) (.tup [.one (.val (.int .u64 x)), .one (.val (.int .i64 n)), .one (.val (.int .i64 e))]) :=
  pure_run GbB_ok Try.func32 (orc := ⟨[], [⟨mkSt 46 [(0, sA s), (5, uA 0), (6, uA 1), (7, iA (0 : Nat))] [], .ret, mkSt 46 [(2, uA x), (3, iA n), (4, iA e)] []⟩]⟩) (obl := [s = s,
      (0 : Int) = (0 : Int),
      (1 : Int) = (1 : Int),
      (0 : Int) = (↑(0 : Nat) : Int),
      (0 : Nat) ≤ (0 : Nat),
      CodeOk Try.prog (0 : Nat) (Code.loop (loopOf Try.f32 (0 : Nat))) (mkSt (46 : Nat) [((0 : Nat), sA s), ((5 : Nat), uA (0 : Int)), ((6 : Nat), uA (1 : Int)), ((7 : Nat), iA (↑(0 : Nat) : Int))] []) Ex.ret (mkSt (46 : Nat) [((2 : Nat), uA x), ((3 : Nat), iA n), ((4 : Nat), iA e)] []),
      x = x,
      n = n,
      e = e]) (by kernel_rfl) (.cons (by rfl) (.cons (by rfl) (.cons (by rfl) (.cons (by rfl) (.cons (by trivial) (.cons (by assumption) (.cons (by rfl) (.cons (by rfl) (.cons (by rfl) .nil)))))))))

set_option maxHeartbeats 2000000 in
theorem sv_s (s : ByteArray) (l0 : CodeOk Try.prog 0 (.loop (loopOf Try.f32 0)) (mkSt 46 [(0, sA s), (5, uA 0), (6, uA 1), (7, iA (0 : Nat))] []) (.exit 0) (mkSt 46 [] [])) : PureOk Try.prog 32 ([sA s]) (.tup [.one (.val (.int .u64 0)), .one (.val (.int .i64 0)), .one (.val (.int .i64 2))]) :=
  pure_run GbB_ok Try.func32 (orc := ⟨[], [⟨mkSt 46 [(0, sA s), (5, uA 0), (6, uA 1), (7, iA (0 : Nat))] [], .exit 0, mkSt 46 [] []⟩]⟩) (obl := [s = s,
      (0 : Int) = (0 : Int),
      (1 : Int) = (1 : Int),
      (0 : Int) = (↑(0 : Nat) : Int),
      (0 : Nat) ≤ (0 : Nat),
      CodeOk Try.prog (0 : Nat) (Code.loop (loopOf Try.f32 (0 : Nat))) (mkSt (46 : Nat) [((0 : Nat), sA s), ((5 : Nat), uA (0 : Int)), ((6 : Nat), uA (1 : Int)), ((7 : Nat), iA (↑(0 : Nat) : Int))] []) (Ex.exit (0 : Nat)) (mkSt (46 : Nat) [] []),
      (0 : Int) = (0 : Int),
      (0 : Int) = (0 : Int),
      (2 : Int) = (2 : Int)]) (by kernel_rfl) (.cons (by rfl) (.cons (by rfl) (.cons (by rfl) (.cons (by rfl) (.cons (by trivial) (.cons (by assumption) (.cons (by rfl) (.cons (by rfl) (.cons (by rfl) .nil)))))))))
end Go.Proofs.Ytecgigeahkijaaa

/- wire: numbers read, as specifications. No condition. -/
namespace Go.Proofs.Ytecgigeahkijaaa
set_option linter.unusedVariables false
set_option linter.unusedSimpArgs false
open Go.RowKit E

theorem ipow_le {b : Int} (hb : 1 ≤ b) : ∀ {i j : Nat}, i ≤ j → b ^ i ≤ b ^ j
  | i, 0, h => by have : i = 0 := by omega
                  subst this; exact Int.le_refl _
  | i, j + 1, h => by
    by_cases e : i = j + 1
    · subst e; exact Int.le_refl _
    · have h1 := ipow_le hb (i := i) (j := j) (by omega)
      have h2 : (0 : Int) < b ^ j := Int.pow_pos (by omega)
      have h3 := Int.mul_le_mul_of_nonneg_left hb (Int.le_of_lt h2)
      rw [Int.pow_succ]
      omega
theorem bigZ_snoc : ∀ (l : List Int) (n c : Int), bigZ n (l ++ [c]) = bigZ n l * 256 + c
  | [], n, c => rfl
  | a :: l, n, c => bigZ_snoc l _ c
theorem bigZ_bd : ∀ (l : List Int) (n : Int), inB l → 0 ≤ n → 0 ≤ bigZ n l ∧ bigZ n l < (n + 1) * 256 ^ l.length
  | [], n, _, h => ⟨h, by simp [bigZ]; omega⟩
  | a :: l, n, hb, h => by
    have ha := hb a (List.mem_cons_self ..)
    have := bigZ_bd l (n * 256 + a) (fun x hx => hb x (List.mem_cons_of_mem _ hx)) (by omega)
    refine ⟨this.1, Int.lt_of_lt_of_le this.2 ?_⟩
    rw [List.length_cons, Int.pow_succ, Int.mul_comm (256 ^ l.length) 256, ← Int.mul_assoc]
    exact Int.mul_le_mul_of_nonneg_right (by omega) (Int.le_of_lt (Int.pow_pos (by omega)))
theorem take_snoc {l : List Int} {i : Nat} (h : i < l.length) : l.take (i + 1) = l.take i ++ [l.getD i 0] := by
  rw [List.take_add_one, List.getElem?_eq_getElem h, List.getD_eq_getElem?_getD, List.getElem?_eq_getElem h]; rfl
theorem inB_take {l : List Int} (h : inB l) (n : Nat) : inB (l.take n) := fun x hx => h x (List.mem_of_mem_take hx)
theorem inB_drop {l : List Int} (h : inB l) (n : Nat) : inB (l.drop n) := fun x hx => h x (List.mem_of_mem_drop hx)
theorem pow256_le {i : Nat} (h : i ≤ 8) : (256 : Int) ^ i ≤ 18446744073709551616 := by
  have : (256 : Int) ^ i ≤ 256 ^ 8 := ipow_le (by decide) h
  omega
theorem byteAt_bd (s : ByteArray) (i : Int) : 0 ≤ byteAt s i ∧ byteAt s i < 256 := by
  unfold byteAt
  have := (s.data.toList.getD i.toNat 0).toNat_lt
  omega
theorem byteAt_wrap (s : ByteArray) (i : Int) : IntKind.wrap IntKind.u64 (byteAt s i) = byteAt s i := wU64 rfl (by have := byteAt_bd s i; omega)
def fixV (s : ByteArray) (w : Int) : Int := if (s.size : Int) < w then 0 else bigZ 0 ((ints s).take w.toNat)
theorem pureFixed (s : ByteArray) (w : Int) (h0 : 0 ≤ w) (h8 : w ≤ 8) (hz : s.size ≤ 140737488355328) :
    PureOk Try.prog 40 [sA s, iA w] (.tup [.one (.val (.int .u64 (fixV s w))), .one (.val (.int .i64 (if (s.size : Int) < w then 0 else w))), .one (.val (.int .i64 (if (s.size : Int) < w then 2 else 0)))]) := by
  unfold fixV
  by_cases c : (s.size : Int) < w
  · rw [if_pos c, if_pos c, if_pos c]; exact fx_s s w c
  · rw [if_neg c, if_neg c, if_neg c]
    obtain ⟨w, rfl⟩ := Int.eq_ofNat_of_zero_le h0
    refine fx_k s w _ c ?_
    refine loop_ok (α := Nat) (fun i => mkSt 27 [(0, sA s), (1, iA w), (7, uA (bigZ 0 ((ints s).take i))), (13, iA w), (14, iA i)] []) (fun i => i ≤ w) (fun i => w - i) (by simp) ?_ (x := 0) (Nat.zero_le _)
    intro i hi
    by_cases e : i = w
    · subst e; exact .inr (fx_e s i _)
    · have hl := ints_len s
      have hb := bigZ_bd ((ints s).take i) 0 (inB_take (inB_ints s) i) (by omega)
      have hlen : ((ints s).take i).length = i := by rw [List.length_take]; omega
      rw [hlen] at hb
      have hp : (256 : Int) ^ i ≤ 256 ^ 7 := ipow_le (by decide) (by omega)
      have hp7 : (256 : Int) ^ 7 = 72057594037927936 := by decide
      refine .inl ⟨i + 1, (show i + 1 ≤ w by omega), (show w - (i + 1) < w - i by omega), fx_n s w _ _ i (by omega) (by omega) hz ?_⟩
      rw [take_snoc (by omega), bigZ_snoc, byteAt_wrap, byteAt_ints]
      have hc := (byteAt_ints s i) ▸ byteAt_bd s i
      rw [show (2 : Int) ^ 8 = 256 from rfl, wU64 (a := bigZ 0 ((ints s).take i) * 256) rfl (by omega)]
      exact orZ 8 (by omega) (by omega) (by rw [show (2 : Int) ^ 8 = 256 from rfl]; omega) hc.1 (by rw [show (2 : Int) ^ 8 = 256 from rfl]; exact hc.2) (by omega)
def gFixed : List SV → Option (SV × List Prop)
  | [.nv (.one (.val (.string s))), .nv (.one (.val (.int .i64 w)))] => some (.tup [.one (.val (.int .u64 (fixV s w))), .one (.val (.int .i64 (if (s.size : Int) < w then 0 else w))), .one (.val (.int .i64 (if (s.size : Int) < w then 2 else 0)))], [0 ≤ w, w ≤ 8, s.size ≤ 140737488355328])
  | _ => none
theorem spFixed : SpOk Try.prog 40 (pureS gFixed) := pureS_ok (by
  intro args r obl h ho
  unfold gFixed at h
  split at h
  · simp only [Option.some.injEq, Prod.mk.injEq] at h
    obtain ⟨rfl, rfl⟩ := h
    exact ⟨rfl, rfl, pureFixed _ _ ho.1 ho.2.1 ho.2.2.1⟩
  · cases h)
theorem pow2_7 (i : Nat) : (2 : Int) ^ (7 * i) = 128 ^ i := by rw [Int.pow_mul]; rfl
theorem sh_bd {i : Nat} {d : Int} (h0 : 0 ≤ d) (h1 : d < 128) (hi : i ≤ 9) (h9 : i = 9 → d ≤ 1) : 0 ≤ d * 128 ^ i ∧ d * 128 ^ i ≤ 9223372036854775808 := by
  have hp : (0 : Int) < 128 ^ i := Int.pow_pos (by omega)
  refine ⟨Int.mul_nonneg h0 (by omega), ?_⟩
  by_cases e : i = 9
  · subst e; have := h9 rfl; omega
  · have hp8 : (128 : Int) ^ i ≤ 128 ^ 8 := ipow_le (by decide) (by omega)
    have e8 : (128 : Int) ^ 8 = 72057594037927936 := by decide
    have := Int.mul_le_mul (show d ≤ 127 by omega) hp8 (by omega) (by omega)
    omega
theorem or_sh {i : Nat} {x d : Int} (hx0 : 0 ≤ x) (hx : x < 128 ^ i) (h0 : 0 ≤ d) (h1 : d < 128) (hi : i ≤ 9) (h9 : i = 9 → d ≤ 1) :
    bits BinOp.or IntKind.u64 x (IntKind.wrap IntKind.u64 (d * 2 ^ Nat.min (IntKind.wrap IntKind.i64 (7 * (i : Int))).toNat 64)) = x + d * 128 ^ i := by
  have e7 : IntKind.wrap IntKind.i64 (7 * (i : Int)) = 7 * i := w64 rfl (by omega)
  rw [e7, show Nat.min (7 * (i : Int)).toNat 64 = 7 * i by rw [show (7 * (i : Int)).toNat = 7 * i by omega]; exact Nat.min_eq_left (by omega), pow2_7]
  have hb := sh_bd h0 h1 hi h9
  rw [wU64 (a := d * 128 ^ i) rfl (by omega)]
  have hp : (128 : Int) ^ i ≤ 128 ^ 9 := ipow_le (by decide) (by omega)
  have e9 : (128 : Int) ^ 9 = 9223372036854775808 := by decide
  exact orZ' (7 * i) hb.1 (by omega) (by rw [pow2_7]; exact Int.mul_emod_left _ _) hx0 (by rw [pow2_7]; exact hx) (by omega)
theorem x_next {i : Nat} {x d : Int} (hx0 : 0 ≤ x) (hx : x < 128 ^ i) (h0 : 0 ≤ d) (h1 : d < 128) : 0 ≤ x + d * 128 ^ i ∧ x + d * 128 ^ i < 128 ^ (i + 1) := by
  have hp : (0 : Int) < 128 ^ i := Int.pow_pos (by omega)
  have := Int.mul_nonneg h0 (Int.le_of_lt hp)
  have h2 := Int.mul_le_mul_of_nonneg_right (show d ≤ 127 by omega) (Int.le_of_lt hp)
  rw [Int.pow_succ]
  omega
theorem drop_at {l m : List Int} {c : Int} {i : Nat} (h : l.drop i = c :: m) : i < l.length ∧ l.getD i 0 = c ∧ l.drop (i + 1) = m := by
  have hi : i < l.length := by
    rcases Nat.lt_or_ge i l.length with q | q
    · exact q
    · rw [List.drop_eq_nil_of_le q] at h; cases h
  rw [List.drop_eq_getElem_cons hi] at h
  obtain ⟨h1, h2⟩ := List.cons.inj h
  exact ⟨hi, by rw [List.getD_eq_getElem?_getD, List.getElem?_eq_getElem hi]; exact h1, h2⟩
abbrev nbS (s : ByteArray) (x : Int) (i : Nat) : St := mkSt 49 [(0, sA s), (5, uA x), (9, iA s.size), (10, iA i)] []
abbrev nbR (r : Int × Int × Int) : St := mkSt 49 [(2, uA r.1), (3, iA r.2.1), (4, iA r.2.2)] []
theorem nb_loop (s : ByteArray) (hz : s.size ≤ 140737488355328) : ∀ (l : List Int) (i : Nat) (x : Int), (ints s).drop i = l → i ≤ 9 → i ≤ s.size → 0 ≤ x → x < 128 ^ i →
    (numL i x l = (0, 0, 2) ∧ LoopOk Try.prog 0 (loopOf Try.f41 0) (nbS s x i) (.exit 0) (mkSt 49 [] [])) ∨
    LoopOk Try.prog 0 (loopOf Try.f41 0) (nbS s x i) .ret (nbR (numL i x l))
  | [], i, x, hl, h9, his, h0, h1 => by
    have hi : i = s.size := by
      have : (ints s).length ≤ i := by
        rcases Nat.lt_or_ge i (ints s).length with q | q
        · rw [List.drop_eq_getElem_cons q] at hl; cases hl
        · exact q
      rw [ints_len] at this; omega
    subst hi
    exact .inl ⟨rfl, .last (by simp) (nb_e s x)⟩
  | c :: l, i, x, hl, h9, his, h0, h1 => by
    obtain ⟨hi, hc, hd⟩ := drop_at hl
    rw [ints_len] at hi
    have hb := byteAt_bd s i
    have ec : IntKind.wrap IntKind.u64 (byteAt s (i : Int)) = c := by rw [byteAt_wrap, byteAt_ints, hc]
    rw [byteAt_ints, hc] at hb
    have e7 : 0 ≤ IntKind.wrap IntKind.i64 (7 * (i : Int)) := by rw [w64 (a := 7 * (i : Int)) rfl (by omega)]; omega
    rw [numL]
    by_cases i9 : i = 9
    · by_cases c1 : 1 < c
      · rw [if_pos (.inl ⟨i9, c1⟩)]
        exact .inr (.last (by simp) (nb_f3 s x c i i9 hi hz ec hb.1 hb.2 c1))
      · by_cases c0 : c = 0
        · rw [if_pos (.inr ⟨by omega, c0⟩)]
          exact .inr (.last (by simp) (nb_z3 s x c i i9 hi hz ec hb.1 hb.2 c0))
        · rw [if_neg (by omega), if_pos (by omega)]
          exact .inr (.last (by simp) (nb_k3 s x _ c i i9 hi hz ec hb.1 hb.2 (by omega) c0 (by omega) (by rw [ec]; exact or_sh h0 h1 hb.1 (by omega) h9 (fun _ => by omega)) e7))
    · by_cases c0 : 0 < i ∧ c = 0
      · rw [if_pos (.inr c0)]
        exact .inr (.last (by simp) (nb_z1 s x c i i9 c0.1 hi hz ec hb.1 hb.2 c0.2))
      · rw [if_neg (by omega)]
        by_cases c7 : c < 128
        · rw [if_pos c7]
          have eo := or_sh h0 h1 hb.1 c7 h9 (fun q => absurd q i9)
          by_cases i0 : i = 0
          · exact .inr (.last (by simp) (nb_k2 s x _ c i i0 hi hz ec hb.1 hb.2 c7 (by rw [ec]; exact eo) e7))
          · exact .inr (.last (by simp) (nb_k1 s x _ c i i9 (by omega) hi hz ec hb.1 hb.2 c7 (by omega) (by rw [ec]; exact eo) e7))
        · rw [if_neg c7]
          have ew : IntKind.wrap IntKind.u64 (IntKind.wrap IntKind.u64 (byteAt s (i : Int)) - 128) = c - 128 := by rw [ec]; exact wU64 rfl (by omega)
          have eo := or_sh h0 h1 (show 0 ≤ c - 128 by omega) (by omega) h9 (fun q => absurd q i9)
          have hn := x_next h0 h1 (show 0 ≤ c - 128 by omega) (by omega)
          have step : CodeOk Try.prog 0 (loopOf Try.f41 0) (nbS s x i) .normal (nbS s (x + (c - 128) * 128 ^ i) (i + 1)) := by
            by_cases i0 : i = 0
            · exact nb_n2 s x _ c i i0 hi hz ec hb.1 hb.2 (by omega) (by rw [ew]; exact eo) e7
            · exact nb_n1 s x _ c i i9 (by omega) hi hz ec hb.1 hb.2 (by omega) (by rw [ew]; exact eo) e7
          rcases nb_loop s hz l (i + 1) _ hd (by omega) (by omega) hn.1 hn.2 with ⟨q1, q2⟩ | q
          · exact .inl ⟨q1, .step step q2⟩
          · exact .inr (.step step q)
def numZ (s : ByteArray) : Int × Int × Int := numL 0 0 (ints s)
theorem pureNumber (s : ByteArray) (hz : s.size ≤ 140737488355328) :
    PureOk Try.prog 41 [sA s] (.tup [.one (.val (.int .u64 (numZ s).1)), .one (.val (.int .i64 (numZ s).2.1)), .one (.val (.int .i64 (numZ s).2.2))]) := by
  rcases nb_loop s hz (ints s) 0 0 rfl (by omega) (by omega) (Int.le_refl _) (by decide) with ⟨q1, q2⟩ | q
  · unfold numZ; rw [q1]; exact nb_s s q2.code
  · exact nb_r s _ _ _ q.code
def gNumber : List SV → Option (SV × List Prop)
  | [.nv (.one (.val (.string s)))] => some (.tup [.one (.val (.int .u64 (numZ s).1)), .one (.val (.int .i64 (numZ s).2.1)), .one (.val (.int .i64 (numZ s).2.2))], [s.size ≤ 140737488355328])
  | _ => none
theorem spNumber : SpOk Try.prog 41 (pureS gNumber) := pureS_ok (by
  intro args r obl h ho
  unfold gNumber at h
  split at h
  · simp only [Option.some.injEq, Prod.mk.injEq] at h
    obtain ⟨rfl, rfl⟩ := h
    exact ⟨rfl, rfl, pureNumber _ ho.1⟩
  · cases h)
abbrev svS (s : ByteArray) (x : Int) (i : Nat) : St := mkSt 46 [(0, sA s), (5, uA x), (6, uA (128 ^ i)), (7, iA i)] []
abbrev svR (r : Int × Int × Int) : St := mkSt 46 [(2, uA r.1), (3, iA r.2.1), (4, iA r.2.2)] []
theorem add_sh {i : Nat} {x c d : Int} (hx0 : 0 ≤ x) (hx : x < 128 ^ i) (h0 : 0 ≤ d) (h1 : d < 128) (hi : i ≤ 9) (h9 : i = 9 → d ≤ 1) (hc0 : 0 ≤ c) (hd : c % 128 = d) :
    IntKind.wrap IntKind.u64 (x + IntKind.wrap IntKind.u64 (Int.tmod c 128 * 128 ^ i)) = x + d * 128 ^ i := by
  have hb := sh_bd h0 h1 hi h9
  have hp : (128 : Int) ^ i ≤ 128 ^ 9 := ipow_le (by decide) (by omega)
  have e9 : (128 : Int) ^ 9 = 9223372036854775808 := by decide
  rw [tmod_e hc0, hd, wU64 (a := d * 128 ^ i) rfl (by omega)]
  exact wU64 rfl (by omega)
theorem sv_loop (s : ByteArray) (hz : s.size ≤ 140737488355328) : ∀ (l : List Int) (i : Nat) (x : Int), (ints s).drop i = l → i ≤ 9 → i ≤ s.size → 0 ≤ x → x < 128 ^ i →
    (numL i x l = (0, 0, 2) ∧ LoopOk Try.prog 0 (loopOf Try.f32 0) (svS s x i) (.exit 0) (mkSt 46 [] [])) ∨
    LoopOk Try.prog 0 (loopOf Try.f32 0) (svS s x i) .ret (svR (numL i x l))
  | [], i, x, hl, h9, his, h0, h1 => by
    have hi : i = s.size := by
      have : (ints s).length ≤ i := by
        rcases Nat.lt_or_ge i (ints s).length with q | q
        · rw [List.drop_eq_getElem_cons q] at hl; cases hl
        · exact q
      rw [ints_len] at this; omega
    subst hi
    exact .inl ⟨rfl, .last (by simp) (sv_e s x _ 0)⟩
  | c :: l, i, x, hl, h9, his, h0, h1 => by
    obtain ⟨hi, hc, hd⟩ := drop_at hl
    rw [ints_len] at hi
    have hb := byteAt_bd s i
    have ec : IntKind.wrap IntKind.u64 (byteAt s (i : Int)) = c := by rw [byteAt_wrap, byteAt_ints, hc]
    rw [byteAt_ints, hc] at hb
    have e7 : 0 ≤ IntKind.wrap IntKind.i64 (7 * (i : Int)) := by rw [w64 (a := 7 * (i : Int)) rfl (by omega)]; omega
    rw [numL]
    by_cases i9 : i = 9
    · by_cases c1 : 1 < c
      · rw [if_pos (.inl ⟨i9, c1⟩)]
        exact .inr (.last (by simp) (sv_f3 s x c _ 0 i i9 hi hz ec hb.1 hb.2 c1))
      · by_cases c0 : c = 0
        · rw [if_pos (.inr ⟨by omega, c0⟩)]
          exact .inr (.last (by simp) (sv_z3 s x c _ 0 i i9 hi hz ec hb.1 hb.2 c0))
        · rw [if_neg (by omega), if_pos (by omega)]
          exact .inr (.last (by simp) (sv_k3 s x _ c _ _ i i9 hi hz ec hb.1 hb.2 (by omega) c0 (by omega) (by rw [ec]; exact add_sh h0 h1 hb.1 (by omega) h9 (fun _ => by omega) hb.1 (by omega)) rfl e7))
    · by_cases c0 : 0 < i ∧ c = 0
      · rw [if_pos (.inr c0)]
        exact .inr (.last (by simp) (sv_z1 s x c _ 0 i i9 c0.1 hi hz ec hb.1 hb.2 c0.2))
      · rw [if_neg (by omega)]
        by_cases c7 : c < 128
        · rw [if_pos c7]
          have eo := add_sh h0 h1 hb.1 c7 h9 (fun q => absurd q i9) hb.1 (show c % 128 = c by omega)
          by_cases i0 : i = 0
          · exact .inr (.last (by simp) (sv_k2 s x _ c _ _ i i0 hi hz ec hb.1 hb.2 c7 (by rw [ec]; exact eo) rfl e7))
          · exact .inr (.last (by simp) (sv_k1 s x _ c _ _ i i9 (by omega) hi hz ec hb.1 hb.2 c7 (by omega) (by rw [ec]; exact eo) rfl e7))
        · rw [if_neg c7]
          have eo := add_sh h0 h1 (show 0 ≤ c - 128 by omega) (by omega) h9 (fun q => absurd q i9) hb.1 (show c % 128 = c - 128 by omega)
          have hn := x_next h0 h1 (show 0 ≤ c - 128 by omega) (by omega)
          have hp : (128 : Int) ^ i ≤ 128 ^ 8 := ipow_le (by decide) (by omega)
          have hp0 : (0 : Int) < 128 ^ i := Int.pow_pos (by omega)
          have e8 : (128 : Int) ^ 8 = 72057594037927936 := by decide
          have eu : IntKind.wrap IntKind.u64 ((128 : Int) ^ i * 128) = 128 ^ (i + 1) := by rw [Int.pow_succ]; exact wU64 rfl (by omega)
          have step : CodeOk Try.prog 0 (loopOf Try.f32 0) (svS s x i) .normal (svS s (x + (c - 128) * 128 ^ i) (i + 1)) := by
            by_cases i0 : i = 0
            · exact sv_n2 s x _ c _ _ i i0 hi hz ec hb.1 hb.2 (by omega) (by rw [ec]; exact eo) eu e7
            · exact sv_n1 s x _ c _ _ i i9 (by omega) hi hz ec hb.1 hb.2 (by omega) (by rw [ec]; exact eo) eu e7
          rcases sv_loop s hz l (i + 1) _ hd (by omega) (by omega) hn.1 hn.2 with ⟨q1, q2⟩ | q
          · exact .inl ⟨q1, .step step q2⟩
          · exact .inr (.step step q)
theorem pureSeven (s : ByteArray) (hz : s.size ≤ 140737488355328) :
    PureOk Try.prog 32 [sA s] (.tup [.one (.val (.int .u64 (numZ s).1)), .one (.val (.int .i64 (numZ s).2.1)), .one (.val (.int .i64 (numZ s).2.2))]) := by
  rcases sv_loop s hz (ints s) 0 0 rfl (by omega) (by omega) (Int.le_refl _) (by decide) with ⟨q1, q2⟩ | q
  · unfold numZ; rw [q1]; exact sv_s s q2.code
  · exact sv_r s _ _ _ q.code
theorem spSeven : SpOk Try.prog 32 (pureS gNumber) := pureS_ok (by
  intro args r obl h ho
  unfold gNumber at h
  split at h
  · simp only [Option.some.injEq, Prod.mk.injEq] at h
    obtain ⟨rfl, rfl⟩ := h
    exact ⟨rfl, rfl, pureSeven _ ho.1⟩
  · cases h)
def GbC : List (FuncId × Sp) := (40, pureS gFixed) :: (41, pureS gNumber) :: (32, pureS gNumber) :: GbB
theorem GbC_ok : CtxOk Try.prog GbC := ctx_cons (enter_of Try.func40 (by kernel_rfl) (by kernel_rfl)) spFixed <|
  ctx_cons (enter_of Try.func41 (by kernel_rfl) (by kernel_rfl)) spNumber <|
  ctx_cons (enter_of Try.func32 (by kernel_rfl) (by kernel_rfl)) spSeven GbB_ok
end Go.Proofs.Ytecgigeahkijaaa

/- wire: fields read: plain functions. No condition. -/
namespace Go.Proofs.Ytecgigeahkijaaa
set_option linter.unusedVariables false
set_option linter.unusedSimpArgs false
open Go.RowKit E

/-- A text with which a row begins: the text, how many bytes, what is wrong. -/
def txtZ (s : ByteArray) : ByteArray × Int × Int :=
  if (numZ s).2.2 ≠ 0 then (.empty, 0, (numZ s).2.2)
  else if 65535 < (numZ s).1 then (.empty, 0, 4)
  else if (s.size : Int) - (numZ s).2.1 < (numZ s).1 then (.empty, 0, 2)
  else (s.extract (numZ s).2.1.toNat ((numZ s).2.1 + (numZ s).1).toNat, (numZ s).2.1 + (numZ s).1, 0)
/-- A field with which a row begins: its number, its text, how many bytes, what is wrong. -/
def oneZ (s : ByteArray) (k : Int) : Int × ByteArray × Int × Int :=
  if 0 < widthZ k then (fixV s (widthZ k), .empty, if (s.size : Int) < widthZ k then 0 else widthZ k, if (s.size : Int) < widthZ k then 2 else 0)
  else if k = 5 then ((numZ s).1, .empty, (numZ s).2.1, (numZ s).2.2)
  else if k = 6 then (0, (txtZ s).1, (txtZ s).2.1, (txtZ s).2.2)
  else (0, .empty, 0, 6)
theorem numL_bd : ∀ (l : List Int) (i : Nat) (x : Int), inB l → i ≤ 9 → 0 ≤ x → x < 128 ^ i → ((numL i x l).2.2 = 0 ∨ (numL i x l).2.2 = 2 ∨ (numL i x l).2.2 = 3) ∧ ((numL i x l).2.2 ≠ 0 → (numL i x l).1 = 0 ∧ (numL i x l).2.1 = 0) ∧
    ((numL i x l).2.2 = 0 → 0 ≤ (numL i x l).1 ∧ (numL i x l).1 ≤ 18446744073709551615 ∧ (i : Int) < (numL i x l).2.1 ∧ (numL i x l).2.1 ≤ i + l.length ∧ (numL i x l).2.1 ≤ 10)
  | [], i, x, hb, h9, h0, h1 => ⟨.inr (.inl rfl), fun _ => ⟨rfl, rfl⟩, fun e => by cases e⟩
  | c :: l, i, x, hb, h9, h0, h1 => by
    have hc := hb c (List.mem_cons_self ..)
    rw [numL]
    by_cases c1 : (i = 9 ∧ 1 < c) ∨ (0 < i ∧ c = 0)
    · rw [if_pos c1]; exact ⟨.inr (.inr rfl), fun _ => ⟨rfl, rfl⟩, fun e => by cases e⟩
    · rw [if_neg c1]
      by_cases c7 : c < 128
      · rw [if_pos c7]
        refine ⟨.inl rfl, fun e => absurd rfl e, fun _ => ?_⟩
        have hs := sh_bd hc.1 c7 h9 (fun _ => by omega)
        have hp : (128 : Int) ^ i ≤ 128 ^ 9 := ipow_le (by decide) h9
        have e9 : (128 : Int) ^ 9 = 9223372036854775808 := by decide
        refine ⟨(show 0 ≤ x + c * 128 ^ i by omega), (show x + c * 128 ^ i ≤ 18446744073709551615 by omega), (show (i : Int) < (i : Int) + 1 by omega), ?_, (show (i : Int) + 1 ≤ 10 by omega)⟩
        show (i : Int) + 1 ≤ i + ((l.length + 1 : Nat) : Int)
        omega
      · rw [if_neg c7]
        by_cases i9 : i = 9
        · exfalso; omega
        have hn := x_next h0 h1 (show 0 ≤ c - 128 by omega) (by omega)
        have ih := numL_bd l (i + 1) _ (fun y hy => hb y (List.mem_cons_of_mem _ hy)) (by omega) hn.1 hn.2
        refine ⟨ih.1, ih.2.1, fun e => ?_⟩
        obtain ⟨a1, a2, a3, a4, a5⟩ := ih.2.2 e
        refine ⟨a1, a2, by omega, ?_, a5⟩
        rw [List.length_cons]; omega
theorem numZ_bd (s : ByteArray) : ((numZ s).2.2 = 0 ∨ (numZ s).2.2 = 2 ∨ (numZ s).2.2 = 3) ∧ ((numZ s).2.2 ≠ 0 → (numZ s).1 = 0 ∧ (numZ s).2.1 = 0) ∧
    ((numZ s).2.2 = 0 → 0 ≤ (numZ s).1 ∧ (numZ s).1 ≤ 18446744073709551615 ∧ 0 < (numZ s).2.1 ∧ (numZ s).2.1 ≤ s.size ∧ (numZ s).2.1 ≤ 10) := by
  have := numL_bd (ints s) 0 0 (inB_ints s) (by omega) (Int.le_refl _) (by decide)
  rw [ints_len] at this
  unfold numZ
  refine ⟨this.1, this.2.1, fun e => ?_⟩
  obtain ⟨a1, a2, a3, a4, a5⟩ := this.2.2 e
  exact ⟨a1, a2, by omega, by omega, a5⟩
theorem fixV_bd (s : ByteArray) (w : Int) (h0 : 0 ≤ w) (h8 : w ≤ 8) : 0 ≤ fixV s w ∧ fixV s w ≤ 18446744073709551615 := by
  unfold fixV
  split
  · omega
  · have := bigZ_bd ((ints s).take w.toNat) 0 (inB_take (inB_ints s) _) (Int.le_refl _)
    have hp := pow256_le (i := ((ints s).take w.toNat).length) (by rw [List.length_take]; omega)
    omega
theorem txtZ_ok {s : ByteArray} (h : (txtZ s).2.2 = 0) : (numZ s).2.2 = 0 ∧ (numZ s).1 ≤ 65535 ∧ 0 ≤ (numZ s).1 ∧ 0 < (numZ s).2.1 ∧ (numZ s).2.1 + (numZ s).1 ≤ s.size ∧ txtZ s = (s.extract (numZ s).2.1.toNat ((numZ s).2.1 + (numZ s).1).toNat, (numZ s).2.1 + (numZ s).1, 0) := by
  have hb := numZ_bd s
  unfold txtZ at h ⊢
  split at h
  · rename_i q; exact absurd h q
  · rename_i q1
    split at h
    · cases h
    · rename_i q2
      split at h
      · cases h
      · rename_i q3
        have e0 : (numZ s).2.2 = 0 := by omega
        obtain ⟨a1, a2, a3, a4, a5⟩ := hb.2.2 e0
        rw [if_neg q1, if_neg q2, if_neg q3]
        exact ⟨e0, by omega, a1, a3, by omega, rfl⟩
theorem oneZ_bd (s : ByteArray) (k : Int) : (oneZ s k).2.2.2 = 0 → 0 ≤ (oneZ s k).2.2.1 ∧ (oneZ s k).2.2.1 ≤ s.size := by
  intro h
  have hw := widthZ_bd k
  have hn := numZ_bd s
  unfold oneZ at h ⊢
  split at h
  · rename_i q
    rw [if_pos q]
    simp only at h ⊢
    split at h
    · omega
    · rename_i q2; rw [if_neg q2]; omega
  · rename_i q
    rw [if_neg q]
    split at h
    · rename_i q2
      rw [if_pos q2]
      obtain ⟨a1, a2, a3, a4, a5⟩ := hn.2.2 h
      exact ⟨by show 0 ≤ (numZ s).2.1; omega, a4⟩
    · rename_i q2
      rw [if_neg q2]
      split at h
      · rename_i q3
        rw [if_pos q3]
        obtain ⟨b1, b2, b3, b4, b5, b6⟩ := txtZ_ok h
        rw [b6]
        simp only
        omega
      · cases h
theorem oneZ_n (s : ByteArray) (k : Int) : 0 ≤ (oneZ s k).1 ∧ (oneZ s k).1 ≤ 18446744073709551615 := by
  have hw := widthZ_bd k
  have hn := numZ_bd s
  have hf := fixV_bd s (widthZ k) hw.1 hw.2
  unfold oneZ
  split
  · exact hf
  · split
    · simp only
      by_cases e : (numZ s).2.2 = 0
      · have := hn.2.2 e; omega
      · have := hn.2.1 e; omega
    · split <;> simp only <;> omega
/-- What stands from a place on. -/
def fromZ (s : ByteArray) (a : Nat) : ByteArray := s.extract a s.size
theorem fromZ_size {s : ByteArray} {a : Nat} (h : a ≤ s.size) : (fromZ s a).size = s.size - a := by
  unfold fromZ; rw [ByteArray.size_extract]; omega
theorem fromZ_ints (s : ByteArray) (a : Nat) : ints (fromZ s a) = (ints s).drop a := by
  unfold ints fromZ
  rw [ext_toList, List.take_of_length_le (by simp), List.map_drop]
/-- Where the fields of the kinds K stand, and what is wrong with the first bad one. -/
def atN (s : ByteArray) (K : Nat → Int) : Nat → Nat
  | 0 => 0
  | i + 1 => atN s K i + (oneZ (fromZ s (atN s K i)) (K i)).2.2.1.toNat
def errT (s : ByteArray) (K : Nat → Int) : Nat → Int
  | 0 => 0
  | i + 1 => if errT s K i = 0 then (oneZ (fromZ s (atN s K i)) (K i)).2.2.2 else errT s K i
def fldT (s : ByteArray) (K : Nat → Int) (i : Nat) : Fl := ⟨K i, (oneZ (fromZ s (atN s K i)) (K i)).1, (oneZ (fromZ s (atN s K i)) (K i)).2.1⟩
theorem errT_low {s : ByteArray} {K : Nat → Int} : ∀ {n : Nat}, errT s K n = 0 → ∀ i, i < n → errT s K i = 0 ∧ (oneZ (fromZ s (atN s K i)) (K i)).2.2.2 = 0
  | 0, h, i, hi => absurd hi (Nat.not_lt_zero i)
  | n + 1, h, i, hi => by
    by_cases e : errT s K n = 0
    · rw [errT, if_pos e] at h
      by_cases q : i = n
      · subst q; exact ⟨e, h⟩
      · exact errT_low e i (by omega)
    · rw [errT, if_neg e] at h; exact absurd h e
theorem errT_at {s : ByteArray} {K : Nat → Int} : ∀ {n : Nat}, errT s K n ≠ 0 → ∃ p, p < n ∧ errT s K p = 0 ∧ (oneZ (fromZ s (atN s K p)) (K p)).2.2.2 = errT s K n
  | 0, h => absurd rfl h
  | n + 1, h => by
    by_cases e : errT s K n = 0
    · exact ⟨n, by omega, e, by rw [errT, if_pos e]⟩
    · obtain ⟨p, h1, h2, h3⟩ := errT_at e
      exact ⟨p, by omega, h2, by rw [errT, if_neg e]; exact h3⟩
theorem atN_le {s : ByteArray} {K : Nat → Int} : ∀ {n : Nat}, errT s K n = 0 → atN s K n ≤ s.size
  | 0, _ => Nat.zero_le _
  | n + 1, h => by
    obtain ⟨h1, h2⟩ := errT_low h n (Nat.lt_succ_self n)
    have ih := atN_le h1
    have := oneZ_bd _ _ h2
    rw [fromZ_size ih] at this
    rw [atN]
    omega
abbrev gK (K : Nat → Int) : Nat → List At := fun j => [.val (.int .i64 (K j))]
end Go.Proofs.Ytecgigeahkijaaa
