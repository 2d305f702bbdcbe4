/- Runs of Go code, as printed by a program: no condition beyond those that each states. -/
import Derived.Test.YtecgigeahkijaaaWrY
import Derived.Test.YtecgigeahkijaaaChecked
import Derived.KernelRfl
namespace Go.Proofs.Ytecgigeahkijaaa
set_option linter.unusedVariables false
set_option linter.unusedSimpArgs false
set_option maxRecDepth 100000
open Go.RowKit E
set_option maxHeartbeats 2000000 in
theorem fx_n (s : ByteArray) (w x y : Int) (i : Nat) (hi : (i : Int) < w) (hs : w ≤ s.size) (hz : s.size ≤ 140737488355328) (ey : bits BinOp.or IntKind.u64 (IntKind.wrap IntKind.u64 (x * (2 : Int) ^ (8 : Nat))) (IntKind.wrap IntKind.u64 (byteAt s (i : Int))) = y) : CodeOk Try.prog 0 (loopOf Try.f40 0) (mkSt 27 [(0, sA s), (1, iA w), (7, uA x), (13, iA w), (14, iA i)] []) .normal (mkSt 27 [(0, sA s), (1, iA w), (7, uA y), (13, iA w), (14, iA (i + 1 : Nat))] []) :=
  code_run GbB_ok (orc := ⟨[true], []⟩) (obl := [decide ((↑i : Int) < w) = true,
      (0 : Int) ≤ (8 : Int),
      (0 : Int) ≤ (↑i : Int),
      (↑i : Int) < (↑(ByteArray.size s) : Int),
      s = s,
      w = w,
      bits BinOp.or IntKind.u64 (IntKind.wrap IntKind.u64 (x * (2 : Int) ^ (8 : Nat))) (IntKind.wrap IntKind.u64 (byteAt s (↑i : Int))) = y,
      w = w,
      IntKind.wrap IntKind.i64 ((↑i : Int) + (1 : Int)) = (↑(i + (1 : Nat)) : Int)]) (by kernel_rfl) (.cons (by exact decide_eq_true (by omega)) (.cons (by trivial) (.cons (by omega) (.cons (by omega) (.cons (by rfl) (.cons (by rfl) (.cons (by assumption) (.cons (by rfl) (.cons (by exact w64 (by omega) (by omega)) .nil))))))))) (Nat.le_of_ble_eq_true (by kernel_rfl))

set_option maxHeartbeats 2000000 in
theorem fx_e (s : ByteArray) (w x : Int) : CodeOk Try.prog 0 (loopOf Try.f40 0) (mkSt 27 [(0, sA s), (1, iA w), (7, uA x), (13, iA w), (14, iA w)] []) (.exit 0) (mkSt 27 [(1, iA w), (7, uA x)] []) :=
  code_run GbB_ok (orc := ⟨[false], []⟩) (obl := [decide (w < w) = false,
      w = w,
      x = x]) (by kernel_rfl) (.cons (by exact decide_eq_false (by omega)) (.cons (by rfl) (.cons (by rfl) .nil))) (Nat.le_of_ble_eq_true (by kernel_rfl))

set_option maxHeartbeats 2000000 in
theorem fx_k (s : ByteArray) (w x : Int) (h : ¬ (s.size : Int) < w) (l0 : CodeOk Try.prog 0 (.loop (loopOf Try.f40 0)) (mkSt 27 [(0, sA s), (1, iA w), (7, uA 0), (13, iA w), (14, iA (0 : Nat))] []) (.exit 0) (mkSt 27 [(1, iA w), (7, uA x)] [])) : PureOk Try.prog 40 ([sA s, iA w]) (.tup [.one (.val (.int .u64 x)), .one (.val (.int .i64 w)), .one (.val (.int .i64 0))]) :=
  pure_run GbB_ok Try.func40 (orc := ⟨[false], [⟨mkSt 27 [(0, sA s), (1, iA w), (7, uA 0), (13, iA w), (14, iA (0 : Nat))] [], .exit 0, mkSt 27 [(1, iA w), (7, uA x)] []⟩]⟩) (obl := [decide ((↑(ByteArray.size s) : Int) < w) = false,
      s = s,
      w = w,
      (0 : Int) = (0 : Int),
      w = w,
      (0 : Int) = (↑(0 : Nat) : Int),
      (0 : Nat) ≤ (0 : Nat),
      CodeOk Try.prog (0 : Nat) (Code.loop (loopOf Try.f40 (0 : Nat))) (mkSt (27 : Nat) [((0 : Nat), sA s), ((1 : Nat), iA w), ((7 : Nat), uA (0 : Int)), ((13 : Nat), iA w), ((14 : Nat), iA (↑(0 : Nat) : Int))] []) (Ex.exit (0 : Nat)) (mkSt (27 : Nat) [((1 : Nat), iA w), ((7 : Nat), uA x)] []),
      x = x,
      w = w,
      (0 : Int) = (0 : Int)]) (by kernel_rfl) (.cons (by exact decide_eq_false (by omega)) (.cons (by rfl) (.cons (by rfl) (.cons (by rfl) (.cons (by rfl) (.cons (by rfl) (.cons (by trivial) (.cons (by assumption) (.cons (by rfl) (.cons (by rfl) (.cons (by rfl) .nil)))))))))))

set_option maxHeartbeats 2000000 in
theorem fx_s (s : ByteArray) (w : Int) (h : (s.size : Int) < w) : PureOk Try.prog 40 ([sA s, iA w]) (.tup [.one (.val (.int .u64 0)), .one (.val (.int .i64 0)), .one (.val (.int .i64 2))]) :=
  pure_run GbB_ok Try.func40 (orc := ⟨[true], []⟩) (obl := [decide ((↑(ByteArray.size s) : Int) < w) = true,
      (0 : Int) = (0 : Int),
      (0 : Int) = (0 : Int),
      (2 : Int) = (2 : Int)]) (by kernel_rfl) (.cons (by exact decide_eq_true (by omega)) (.cons (by rfl) (.cons (by rfl) (.cons (by rfl) .nil))))

set_option maxHeartbeats 2000000 in
theorem nb_n1 (s : ByteArray) (x y c : Int) (i : Nat) (h9 : i ≠ 9) (h0 : 0 < i) (hi : i < s.size) (hz : s.size ≤ 140737488355328) (ec : IntKind.wrap IntKind.u64 (byteAt s (i : Int)) = c) (c0 : 0 ≤ c) (c1 : c < 256) (hc : 128 ≤ c) (ey : bits BinOp.or IntKind.u64 x (IntKind.wrap IntKind.u64 ((IntKind.wrap IntKind.u64 (IntKind.wrap IntKind.u64 (byteAt s (i : Int)) - 128)) * 2 ^ Nat.min (IntKind.wrap IntKind.i64 (7 * (i : Int))).toNat 64)) = y) (e7 : 0 ≤ IntKind.wrap IntKind.i64 (7 * (i : Int))) : CodeOk Try.prog 0 (loopOf Try.f41 0) (mkSt 49 [(0, sA s), (5, uA x), (9, iA s.size), (10, iA i)] []) .normal (mkSt 49 [(0, sA s), (5, uA y), (9, iA s.size), (10, iA (i + 1 : Nat))] []) :=
  code_run GbB_ok (orc := ⟨[true, false, false, true, false, false], []⟩) (obl := [decide ((↑i : Int) < (↑(ByteArray.size s) : Int)) = true,
      (0 : Int) ≤ (↑i : Int),
      (↑i : Int) < (↑(ByteArray.size s) : Int),
      ((↑i : Int) == (9 : Int)) = false,
      false = false,
      decide ((↑i : Int) > (0 : Int)) = true,
      (IntKind.wrap IntKind.u64 (byteAt s (↑i : Int)) == (0 : Int)) = false,
      decide (IntKind.wrap IntKind.u64 (byteAt s (↑i : Int)) < (128 : Int)) = false,
      (0 : Int) ≤ IntKind.wrap IntKind.i64 ((7 : Int) * (↑i : Int)),
      s = s,
      bits BinOp.or IntKind.u64 x (IntKind.wrap IntKind.u64 (IntKind.wrap IntKind.u64 (IntKind.wrap IntKind.u64 (byteAt s (↑i : Int)) - (128 : Int)) * (2 : Int) ^ min (Int.toNat (IntKind.wrap IntKind.i64 ((7 : Int) * (↑i : Int)))) (IntKind.bits IntKind.u64))) = y,
      (↑(ByteArray.size s) : Int) = (↑(ByteArray.size s) : Int),
      IntKind.wrap IntKind.i64 ((↑i : Int) + (1 : Int)) = (↑(i + (1 : Nat)) : Int)]) (by kernel_rfl) (.cons (by exact decide_eq_true (by omega)) (.cons (by omega) (.cons (by omega) (.cons (by exact decide_eq_false (by omega)) (.cons (by rfl) (.cons (by exact decide_eq_true (by omega)) (.cons (by (rw [ec]; exact beq_eq_false_iff_ne.2 (by omega))) (.cons (by (rw [ec]; exact decide_eq_false (by omega))) (.cons (by assumption) (.cons (by rfl) (.cons (by assumption) (.cons (by rfl) (.cons (by exact w64 (by omega) (by omega)) .nil))))))))))))) (Nat.le_of_ble_eq_true (by kernel_rfl))

set_option maxHeartbeats 2000000 in
theorem nb_k1 (s : ByteArray) (x y c : Int) (i : Nat) (h9 : i ≠ 9) (h0 : 0 < i) (hi : i < s.size) (hz : s.size ≤ 140737488355328) (ec : IntKind.wrap IntKind.u64 (byteAt s (i : Int)) = c) (c0 : 0 ≤ c) (c1 : c < 256) (hc : c < 128) (hc0 : c ≠ 0) (ey : bits BinOp.or IntKind.u64 x (IntKind.wrap IntKind.u64 ((IntKind.wrap IntKind.u64 (byteAt s (i : Int))) * 2 ^ Nat.min (IntKind.wrap IntKind.i64 (7 * (i : Int))).toNat 64)) = y) (e7 : 0 ≤ IntKind.wrap IntKind.i64 (7 * (i : Int))) : CodeOk Try.prog 0 (loopOf Try.f41 0) (mkSt 49 [(0, sA s), (5, uA x), (9, iA s.size), (10, iA i)] []) .ret (mkSt 49 [(2, uA y), (3, iA (i + 1 : Nat)), (4, iA 0)] []) :=
  code_run GbB_ok (orc := ⟨[true, false, false, true, false, true], []⟩) (obl := [decide ((↑i : Int) < (↑(ByteArray.size s) : Int)) = true,
      (0 : Int) ≤ (↑i : Int),
      (↑i : Int) < (↑(ByteArray.size s) : Int),
      ((↑i : Int) == (9 : Int)) = false,
      false = false,
      decide ((↑i : Int) > (0 : Int)) = true,
      (IntKind.wrap IntKind.u64 (byteAt s (↑i : Int)) == (0 : Int)) = false,
      decide (IntKind.wrap IntKind.u64 (byteAt s (↑i : Int)) < (128 : Int)) = true,
      (0 : Int) ≤ IntKind.wrap IntKind.i64 ((7 : Int) * (↑i : Int)),
      bits BinOp.or IntKind.u64 x (IntKind.wrap IntKind.u64 (IntKind.wrap IntKind.u64 (byteAt s (↑i : Int)) * (2 : Int) ^ min (Int.toNat (IntKind.wrap IntKind.i64 ((7 : Int) * (↑i : Int)))) (IntKind.bits IntKind.u64))) = y,
      IntKind.wrap IntKind.i64 ((↑i : Int) + (1 : Int)) = (↑(i + (1 : Nat)) : Int),
      (0 : Int) = (0 : Int)]) (by kernel_rfl) (.cons (by exact decide_eq_true (by omega)) (.cons (by omega) (.cons (by omega) (.cons (by exact decide_eq_false (by omega)) (.cons (by rfl) (.cons (by exact decide_eq_true (by omega)) (.cons (by (rw [ec]; exact beq_eq_false_iff_ne.2 (by omega))) (.cons (by (rw [ec]; exact decide_eq_true (by omega))) (.cons (by assumption) (.cons (by assumption) (.cons (by exact w64 (by omega) (by omega)) (.cons (by rfl) .nil)))))))))))) (Nat.le_of_ble_eq_true (by kernel_rfl))

set_option maxHeartbeats 2000000 in
theorem nb_z1 (s : ByteArray) (x c : Int) (i : Nat) (h9 : i ≠ 9) (h0 : 0 < i) (hi : i < s.size) (hz : s.size ≤ 140737488355328) (ec : IntKind.wrap IntKind.u64 (byteAt s (i : Int)) = c) (c0 : 0 ≤ c) (c1 : c < 256) (hc : c = 0) : CodeOk Try.prog 0 (loopOf Try.f41 0) (mkSt 49 [(0, sA s), (5, uA x), (9, iA s.size), (10, iA i)] []) .ret (mkSt 49 [(2, uA 0), (3, iA 0), (4, iA 3)] []) :=
  code_run GbB_ok (orc := ⟨[true, false, false, true, true], []⟩) (obl := [decide ((↑i : Int) < (↑(ByteArray.size s) : Int)) = true,
      (0 : Int) ≤ (↑i : Int),
      (↑i : Int) < (↑(ByteArray.size s) : Int),
      ((↑i : Int) == (9 : Int)) = false,
      false = false,
      decide ((↑i : Int) > (0 : Int)) = true,
      (IntKind.wrap IntKind.u64 (byteAt s (↑i : Int)) == (0 : Int)) = true,
      (0 : Int) = (0 : Int),
      (0 : Int) = (0 : Int),
      (3 : Int) = (3 : Int)]) (by kernel_rfl) (.cons (by exact decide_eq_true (by omega)) (.cons (by omega) (.cons (by omega) (.cons (by exact decide_eq_false (by omega)) (.cons (by rfl) (.cons (by exact decide_eq_true (by omega)) (.cons (by (rw [ec]; exact beq_iff_eq.2 (by omega))) (.cons (by rfl) (.cons (by rfl) (.cons (by rfl) .nil)))))))))) (Nat.le_of_ble_eq_true (by kernel_rfl))

set_option maxHeartbeats 2000000 in
theorem nb_n2 (s : ByteArray) (x y c : Int) (i : Nat) (h0 : i = 0) (hi : i < s.size) (hz : s.size ≤ 140737488355328) (ec : IntKind.wrap IntKind.u64 (byteAt s (i : Int)) = c) (c0 : 0 ≤ c) (c1 : c < 256) (hc : 128 ≤ c) (ey : bits BinOp.or IntKind.u64 x (IntKind.wrap IntKind.u64 ((IntKind.wrap IntKind.u64 (IntKind.wrap IntKind.u64 (byteAt s (i : Int)) - 128)) * 2 ^ Nat.min (IntKind.wrap IntKind.i64 (7 * (i : Int))).toNat 64)) = y) (e7 : 0 ≤ IntKind.wrap IntKind.i64 (7 * (i : Int))) : CodeOk Try.prog 0 (loopOf Try.f41 0) (mkSt 49 [(0, sA s), (5, uA x), (9, iA s.size), (10, iA i)] []) .normal (mkSt 49 [(0, sA s), (5, uA y), (9, iA s.size), (10, iA (i + 1 : Nat))] []) :=
  code_run GbB_ok (orc := ⟨[true, false, false, false, false, false], []⟩) (obl := [decide ((↑i : Int) < (↑(ByteArray.size s) : Int)) = true,
      (0 : Int) ≤ (↑i : Int),
      (↑i : Int) < (↑(ByteArray.size s) : Int),
      ((↑i : Int) == (9 : Int)) = false,
      false = false,
      decide ((↑i : Int) > (0 : Int)) = false,
      false = false,
      decide (IntKind.wrap IntKind.u64 (byteAt s (↑i : Int)) < (128 : Int)) = false,
      (0 : Int) ≤ IntKind.wrap IntKind.i64 ((7 : Int) * (↑i : Int)),
      s = s,
      bits BinOp.or IntKind.u64 x (IntKind.wrap IntKind.u64 (IntKind.wrap IntKind.u64 (IntKind.wrap IntKind.u64 (byteAt s (↑i : Int)) - (128 : Int)) * (2 : Int) ^ min (Int.toNat (IntKind.wrap IntKind.i64 ((7 : Int) * (↑i : Int)))) (IntKind.bits IntKind.u64))) = y,
      (↑(ByteArray.size s) : Int) = (↑(ByteArray.size s) : Int),
      IntKind.wrap IntKind.i64 ((↑i : Int) + (1 : Int)) = (↑(i + (1 : Nat)) : Int)]) (by kernel_rfl) (.cons (by exact decide_eq_true (by omega)) (.cons (by omega) (.cons (by omega) (.cons (by exact decide_eq_false (by omega)) (.cons (by rfl) (.cons (by exact decide_eq_false (by omega)) (.cons (by rfl) (.cons (by (rw [ec]; exact decide_eq_false (by omega))) (.cons (by assumption) (.cons (by rfl) (.cons (by assumption) (.cons (by rfl) (.cons (by exact w64 (by omega) (by omega)) .nil))))))))))))) (Nat.le_of_ble_eq_true (by kernel_rfl))

set_option maxHeartbeats 2000000 in
theorem nb_k2 (s : ByteArray) (x y c : Int) (i : Nat) (h0 : i = 0) (hi : i < s.size) (hz : s.size ≤ 140737488355328) (ec : IntKind.wrap IntKind.u64 (byteAt s (i : Int)) = c) (c0 : 0 ≤ c) (c1 : c < 256) (hc : c < 128) (ey : bits BinOp.or IntKind.u64 x (IntKind.wrap IntKind.u64 ((IntKind.wrap IntKind.u64 (byteAt s (i : Int))) * 2 ^ Nat.min (IntKind.wrap IntKind.i64 (7 * (i : Int))).toNat 64)) = y) (e7 : 0 ≤ IntKind.wrap IntKind.i64 (7 * (i : Int))) : CodeOk Try.prog 0 (loopOf Try.f41 0) (mkSt 49 [(0, sA s), (5, uA x), (9, iA s.size), (10, iA i)] []) .ret (mkSt 49 [(2, uA y), (3, iA (i + 1 : Nat)), (4, iA 0)] []) :=
  code_run GbB_ok (orc := ⟨[true, false, false, false, false, true], []⟩) (obl := [decide ((↑i : Int) < (↑(ByteArray.size s) : Int)) = true,
      (0 : Int) ≤ (↑i : Int),
      (↑i : Int) < (↑(ByteArray.size s) : Int),
      ((↑i : Int) == (9 : Int)) = false,
      false = false,
      decide ((↑i : Int) > (0 : Int)) = false,
      false = false,
      decide (IntKind.wrap IntKind.u64 (byteAt s (↑i : Int)) < (128 : Int)) = true,
      (0 : Int) ≤ IntKind.wrap IntKind.i64 ((7 : Int) * (↑i : Int)),
      bits BinOp.or IntKind.u64 x (IntKind.wrap IntKind.u64 (IntKind.wrap IntKind.u64 (byteAt s (↑i : Int)) * (2 : Int) ^ min (Int.toNat (IntKind.wrap IntKind.i64 ((7 : Int) * (↑i : Int)))) (IntKind.bits IntKind.u64))) = y,
      IntKind.wrap IntKind.i64 ((↑i : Int) + (1 : Int)) = (↑(i + (1 : Nat)) : Int),
      (0 : Int) = (0 : Int)]) (by kernel_rfl) (.cons (by exact decide_eq_true (by omega)) (.cons (by omega) (.cons (by omega) (.cons (by exact decide_eq_false (by omega)) (.cons (by rfl) (.cons (by exact decide_eq_false (by omega)) (.cons (by rfl) (.cons (by (rw [ec]; exact decide_eq_true (by omega))) (.cons (by assumption) (.cons (by assumption) (.cons (by exact w64 (by omega) (by omega)) (.cons (by rfl) .nil)))))))))))) (Nat.le_of_ble_eq_true (by kernel_rfl))

set_option maxHeartbeats 2000000 in
theorem nb_k3 (s : ByteArray) (x y c : Int) (i : Nat) (h9 : i = 9) (hi : i < s.size) (hz : s.size ≤ 140737488355328) (ec : IntKind.wrap IntKind.u64 (byteAt s (i : Int)) = c) (c0 : 0 ≤ c) (c1 : c < 256) (hc : c < 128) (hc0 : c ≠ 0) (hc1 : c ≤ 1) (ey : bits BinOp.or IntKind.u64 x (IntKind.wrap IntKind.u64 ((IntKind.wrap IntKind.u64 (byteAt s (i : Int))) * 2 ^ Nat.min (IntKind.wrap IntKind.i64 (7 * (i : Int))).toNat 64)) = y) (e7 : 0 ≤ IntKind.wrap IntKind.i64 (7 * (i : Int))) : CodeOk Try.prog 0 (loopOf Try.f41 0) (mkSt 49 [(0, sA s), (5, uA x), (9, iA s.size), (10, iA i)] []) .ret (mkSt 49 [(2, uA y), (3, iA (i + 1 : Nat)), (4, iA 0)] []) :=
  code_run GbB_ok (orc := ⟨[true, true, false, true, false, true], []⟩) (obl := [decide ((↑i : Int) < (↑(ByteArray.size s) : Int)) = true,
      (0 : Int) ≤ (↑i : Int),
      (↑i : Int) < (↑(ByteArray.size s) : Int),
      ((↑i : Int) == (9 : Int)) = true,
      decide (IntKind.wrap IntKind.u64 (byteAt s (↑i : Int)) > (1 : Int)) = false,
      decide ((↑i : Int) > (0 : Int)) = true,
      (IntKind.wrap IntKind.u64 (byteAt s (↑i : Int)) == (0 : Int)) = false,
      decide (IntKind.wrap IntKind.u64 (byteAt s (↑i : Int)) < (128 : Int)) = true,
      (0 : Int) ≤ IntKind.wrap IntKind.i64 ((7 : Int) * (↑i : Int)),
      bits BinOp.or IntKind.u64 x (IntKind.wrap IntKind.u64 (IntKind.wrap IntKind.u64 (byteAt s (↑i : Int)) * (2 : Int) ^ min (Int.toNat (IntKind.wrap IntKind.i64 ((7 : Int) * (↑i : Int)))) (IntKind.bits IntKind.u64))) = y,
      IntKind.wrap IntKind.i64 ((↑i : Int) + (1 : Int)) = (↑(i + (1 : Nat)) : Int),
      (0 : Int) = (0 : Int)]) (by kernel_rfl) (.cons (by exact decide_eq_true (by omega)) (.cons (by omega) (.cons (by omega) (.cons (by exact decide_eq_true (by omega)) (.cons (by (rw [ec]; exact decide_eq_false (by omega))) (.cons (by exact decide_eq_true (by omega)) (.cons (by (rw [ec]; exact beq_eq_false_iff_ne.2 (by omega))) (.cons (by (rw [ec]; exact decide_eq_true (by omega))) (.cons (by assumption) (.cons (by assumption) (.cons (by exact w64 (by omega) (by omega)) (.cons (by rfl) .nil)))))))))))) (Nat.le_of_ble_eq_true (by kernel_rfl))

set_option maxHeartbeats 2000000 in
theorem nb_z3 (s : ByteArray) (x c : Int) (i : Nat) (h9 : i = 9) (hi : i < s.size) (hz : s.size ≤ 140737488355328) (ec : IntKind.wrap IntKind.u64 (byteAt s (i : Int)) = c) (c0 : 0 ≤ c) (c1 : c < 256) (hc : c = 0) : CodeOk Try.prog 0 (loopOf Try.f41 0) (mkSt 49 [(0, sA s), (5, uA x), (9, iA s.size), (10, iA i)] []) .ret (mkSt 49 [(2, uA 0), (3, iA 0), (4, iA 3)] []) :=
  code_run GbB_ok (orc := ⟨[true, true, false, true, true], []⟩) (obl := [decide ((↑i : Int) < (↑(ByteArray.size s) : Int)) = true,
      (0 : Int) ≤ (↑i : Int),
      (↑i : Int) < (↑(ByteArray.size s) : Int),
      ((↑i : Int) == (9 : Int)) = true,
      decide (IntKind.wrap IntKind.u64 (byteAt s (↑i : Int)) > (1 : Int)) = false,
      decide ((↑i : Int) > (0 : Int)) = true,
      (IntKind.wrap IntKind.u64 (byteAt s (↑i : Int)) == (0 : Int)) = true,
      (0 : Int) = (0 : Int),
      (0 : Int) = (0 : Int),
      (3 : Int) = (3 : Int)]) (by kernel_rfl) (.cons (by exact decide_eq_true (by omega)) (.cons (by omega) (.cons (by omega) (.cons (by exact decide_eq_true (by omega)) (.cons (by (rw [ec]; exact decide_eq_false (by omega))) (.cons (by exact decide_eq_true (by omega)) (.cons (by (rw [ec]; exact beq_iff_eq.2 (by omega))) (.cons (by rfl) (.cons (by rfl) (.cons (by rfl) .nil)))))))))) (Nat.le_of_ble_eq_true (by kernel_rfl))

set_option maxHeartbeats 2000000 in
theorem nb_f3 (s : ByteArray) (x c : Int) (i : Nat) (h9 : i = 9) (hi : i < s.size) (hz : s.size ≤ 140737488355328) (ec : IntKind.wrap IntKind.u64 (byteAt s (i : Int)) = c) (c0 : 0 ≤ c) (c1 : c < 256) (hc : 1 < c) : CodeOk Try.prog 0 (loopOf Try.f41 0) (mkSt 49 [(0, sA s), (5, uA x), (9, iA s.size), (10, iA i)] []) .ret (mkSt 49 [(2, uA 0), (3, iA 0), (4, iA 3)] []) :=
  code_run GbB_ok (orc := ⟨[true, true, true], []⟩) (obl := [decide ((↑i : Int) < (↑(ByteArray.size s) : Int)) = true,
      (0 : Int) ≤ (↑i : Int),
      (↑i : Int) < (↑(ByteArray.size s) : Int),
      ((↑i : Int) == (9 : Int)) = true,
      decide (IntKind.wrap IntKind.u64 (byteAt s (↑i : Int)) > (1 : Int)) = true,
      (0 : Int) = (0 : Int),
      (0 : Int) = (0 : Int),
      (3 : Int) = (3 : Int)]) (by kernel_rfl) (.cons (by exact decide_eq_true (by omega)) (.cons (by omega) (.cons (by omega) (.cons (by exact decide_eq_true (by omega)) (.cons (by (rw [ec]; exact decide_eq_true (by omega))) (.cons (by rfl) (.cons (by rfl) (.cons (by rfl) .nil)))))))) (Nat.le_of_ble_eq_true (by kernel_rfl))

set_option maxHeartbeats 2000000 in
theorem nb_e (s : ByteArray) (x : Int) : CodeOk Try.prog 0 (loopOf Try.f41 0) (mkSt 49 [(0, sA s), (5, uA x), (9, iA s.size), (10, iA s.size)] []) (.exit 0) (mkSt 49 [] []) :=
  code_run GbB_ok (orc := ⟨[false], []⟩) (obl := [decide ((↑(ByteArray.size s) : Int) < (↑(ByteArray.size s) : Int)) = false]) (by kernel_rfl) (.cons (by exact decide_eq_false (by omega)) .nil) (Nat.le_of_ble_eq_true (by kernel_rfl))

set_option maxHeartbeats 2000000 in
theorem nb_r (s : ByteArray) (x n e : Int) (l0 : CodeOk Try.prog 0 (.loop (loopOf Try.f41 0)) (mkSt 49 [(0, sA s), (5, uA 0), (9, iA s.size), (10, iA (0 : Nat))] []) .ret (mkSt 49 [(2, uA x), (3, iA n), (4, iA e)] [])) : PureOk Try.prog 41 ([sA s]) (.tup [.one (.val (.int .u64 x)), .one (.val (.int .i64 n)), .one (.val (.int .i64 e))]) :=
  pure_run GbB_ok Try.func41 (orc := ⟨[], [⟨mkSt 49 [(0, sA s), (5, uA 0), (9, iA s.size), (10, iA (0 : Nat))] [], .ret, mkSt 49 [(2, uA x), (3, iA n), (4, iA e)] []⟩]⟩) (obl := [s = s,
      (0 : Int) = (0 : Int),
      (↑(ByteArray.size s) : Int) = (↑(ByteArray.size s) : Int),
      (0 : Int) = (↑(0 : Nat) : Int),
      (0 : Nat) ≤ (0 : Nat),
      CodeOk Try.prog (0 : Nat) (Code.loop (loopOf Try.f41 (0 : Nat))) (mkSt (49 : Nat) [((0 : Nat), sA s), ((5 : Nat), uA (0 : Int)), ((9 : Nat), iA (↑(ByteArray.size s) : Int)), ((10 : Nat), iA (↑(0 : Nat) : Int))] []) Ex.ret (mkSt (49 : Nat) [((2 : Nat), uA x), ((3 : Nat), iA n), ((4 : Nat), iA e)] []),
      x = x,
      n = n,
      e = e]) (by kernel_rfl) (.cons (by rfl) (.cons (by rfl) (.cons (by rfl) (.cons (by rfl) (.cons (by trivial) (.cons (by assumption) (.cons (by rfl) (.cons (by rfl) (.cons (by rfl) .nil)))))))))

set_option maxHeartbeats 2000000 in
theorem nb_s (s : ByteArray) (l0 : CodeOk Try.prog 0 (.loop (loopOf Try.f41 0)) (mkSt 49 [(0, sA s), (5, uA 0), (9, iA s.size), (10, iA (0 : Nat))] []) (.exit 0) (mkSt 49 [] [])) : PureOk Try.prog 41 ([sA s]) (.tup [.one (.val (.int .u64 0)), .one (.val (.int .i64 0)), .one (.val (.int .i64 2))]) :=
  pure_run GbB_ok Try.func41 (orc := ⟨[], [⟨mkSt 49 [(0, sA s), (5, uA 0), (9, iA s.size), (10, iA (0 : Nat))] [], .exit 0, mkSt 49 [] []⟩]⟩) (obl := [s = s,
      (0 : Int) = (0 : Int),
      (↑(ByteArray.size s) : Int) = (↑(ByteArray.size s) : Int),
      (0 : Int) = (↑(0 : Nat) : Int),
      (0 : Nat) ≤ (0 : Nat),
      CodeOk Try.prog (0 : Nat) (Code.loop (loopOf Try.f41 (0 : Nat))) (mkSt (49 : Nat) [((0 : Nat), sA s), ((5 : Nat), uA (0 : Int)), ((9 : Nat), iA (↑(ByteArray.size s) : Int)), ((10 : Nat), iA (↑(0 : Nat) : Int))] []) (Ex.exit (0 : Nat)) (mkSt (49 : Nat) [] []),
      (0 : Int) = (0 : Int),
      (0 : Int) = (0 : Int),
      (2 : Int) = (2 : Int)]) (by kernel_rfl) (.cons (by rfl) (.cons (by rfl) (.cons (by rfl) (.cons (by rfl) (.cons (by trivial) (.cons (by assumption) (.cons (by rfl) (.cons (by rfl) (.cons (by rfl) .nil)))))))))

set_option maxHeartbeats 2000000 in
theorem sv_n1 (s : ByteArray) (x y c : Int) (v u : Int) (i : Nat) (h9 : i ≠ 9) (h0 : 0 < i) (hi : i < s.size) (hz : s.size ≤ 140737488355328) (ec : IntKind.wrap IntKind.u64 (byteAt s (i : Int)) = c) (c0 : 0 ≤ c) (c1 : c < 256) (hc : 128 ≤ c) (ey : IntKind.wrap IntKind.u64 (x + IntKind.wrap IntKind.u64 (Int.tmod (IntKind.wrap IntKind.u64 (byteAt s (i : Int))) 128 * v)) = y) (eu : IntKind.wrap IntKind.u64 (v * 128) = u) (e7 : 0 ≤ IntKind.wrap IntKind.i64 (7 * (i : Int))) : CodeOk Try.prog 0 (loopOf Try.f32 0) (mkSt 46 [(0, sA s), (5, uA x), (6, uA v), (7, iA i)] []) .normal (mkSt 46 [(0, sA s), (5, uA y), (6, uA u), (7, iA (i + 1 : Nat))] []) :=
  code_run GbB_ok (orc := ⟨[true, true, false, false, false, false], []⟩) (obl := [decide ((↑i : Int) < (↑(ByteArray.size s) : Int)) = true,
      (0 : Int) ≤ (↑i : Int),
      (↑i : Int) < (↑(ByteArray.size s) : Int),
      decide ((↑i : Int) > (0 : Int)) = true,
      (IntKind.wrap IntKind.u64 (byteAt s (↑i : Int)) == (0 : Int)) = false,
      ((↑i : Int) == (9 : Int)) = false,
      false = false,
      (128 : Int) ≠ (0 : Int),
      decide (IntKind.wrap IntKind.u64 (byteAt s (↑i : Int)) < (128 : Int)) = false,
      s = s,
      IntKind.wrap IntKind.u64 (x + IntKind.wrap IntKind.u64 (Int.tmod (IntKind.wrap IntKind.u64 (byteAt s (↑i : Int))) (128 : Int) * v)) = y,
      IntKind.wrap IntKind.u64 (v * (128 : Int)) = u,
      IntKind.wrap IntKind.i64 ((↑i : Int) + (1 : Int)) = (↑(i + (1 : Nat)) : Int)]) (by kernel_rfl) (.cons (by exact decide_eq_true (by omega)) (.cons (by omega) (.cons (by omega) (.cons (by exact decide_eq_true (by omega)) (.cons (by (rw [ec]; exact beq_eq_false_iff_ne.2 (by omega))) (.cons (by exact decide_eq_false (by omega)) (.cons (by rfl) (.cons (by trivial) (.cons (by (rw [ec]; exact decide_eq_false (by omega))) (.cons (by rfl) (.cons (by assumption) (.cons (by assumption) (.cons (by exact w64 (by omega) (by omega)) .nil))))))))))))) (Nat.le_of_ble_eq_true (by kernel_rfl))

set_option maxHeartbeats 2000000 in
theorem sv_k1 (s : ByteArray) (x y c : Int) (v u : Int) (i : Nat) (h9 : i ≠ 9) (h0 : 0 < i) (hi : i < s.size) (hz : s.size ≤ 140737488355328) (ec : IntKind.wrap IntKind.u64 (byteAt s (i : Int)) = c) (c0 : 0 ≤ c) (c1 : c < 256) (hc : c < 128) (hc0 : c ≠ 0) (ey : IntKind.wrap IntKind.u64 (x + IntKind.wrap IntKind.u64 (Int.tmod (IntKind.wrap IntKind.u64 (byteAt s (i : Int))) 128 * v)) = y) (eu : IntKind.wrap IntKind.u64 (v * 128) = u) (e7 : 0 ≤ IntKind.wrap IntKind.i64 (7 * (i : Int))) : CodeOk Try.prog 0 (loopOf Try.f32 0) (mkSt 46 [(0, sA s), (5, uA x), (6, uA v), (7, iA i)] []) .ret (mkSt 46 [(2, uA y), (3, iA (i + 1 : Nat)), (4, iA 0)] []) :=
  code_run GbB_ok (orc := ⟨[true, true, false, false, false, true], []⟩) (obl := [decide ((↑i : Int) < (↑(ByteArray.size s) : Int)) = true,
      (0 : Int) ≤ (↑i : Int),
      (↑i : Int) < (↑(ByteArray.size s) : Int),
      decide ((↑i : Int) > (0 : Int)) = true,
      (IntKind.wrap IntKind.u64 (byteAt s (↑i : Int)) == (0 : Int)) = false,
      ((↑i : Int) == (9 : Int)) = false,
      false = false,
      (128 : Int) ≠ (0 : Int),
      decide (IntKind.wrap IntKind.u64 (byteAt s (↑i : Int)) < (128 : Int)) = true,
      IntKind.wrap IntKind.u64 (x + IntKind.wrap IntKind.u64 (Int.tmod (IntKind.wrap IntKind.u64 (byteAt s (↑i : Int))) (128 : Int) * v)) = y,
      IntKind.wrap IntKind.i64 ((↑i : Int) + (1 : Int)) = (↑(i + (1 : Nat)) : Int),
      (0 : Int) = (0 : Int)]) (by kernel_rfl) (.cons (by exact decide_eq_true (by omega)) (.cons (by omega) (.cons (by omega) (.cons (by exact decide_eq_true (by omega)) (.cons (by (rw [ec]; exact beq_eq_false_iff_ne.2 (by omega))) (.cons (by exact decide_eq_false (by omega)) (.cons (by rfl) (.cons (by trivial) (.cons (by (rw [ec]; exact decide_eq_true (by omega))) (.cons (by assumption) (.cons (by exact w64 (by omega) (by omega)) (.cons (by rfl) .nil)))))))))))) (Nat.le_of_ble_eq_true (by kernel_rfl))

set_option maxHeartbeats 2000000 in
theorem sv_z1 (s : ByteArray) (x c : Int) (v u : Int) (i : Nat) (h9 : i ≠ 9) (h0 : 0 < i) (hi : i < s.size) (hz : s.size ≤ 140737488355328) (ec : IntKind.wrap IntKind.u64 (byteAt s (i : Int)) = c) (c0 : 0 ≤ c) (c1 : c < 256) (hc : c = 0) : CodeOk Try.prog 0 (loopOf Try.f32 0) (mkSt 46 [(0, sA s), (5, uA x), (6, uA v), (7, iA i)] []) .ret (mkSt 46 [(2, uA 0), (3, iA 0), (4, iA 3)] []) :=
  code_run GbB_ok (orc := ⟨[true, true, true, true], []⟩) (obl := [decide ((↑i : Int) < (↑(ByteArray.size s) : Int)) = true,
      (0 : Int) ≤ (↑i : Int),
      (↑i : Int) < (↑(ByteArray.size s) : Int),
      decide ((↑i : Int) > (0 : Int)) = true,
      (IntKind.wrap IntKind.u64 (byteAt s (↑i : Int)) == (0 : Int)) = true,
      true = true,
      (0 : Int) = (0 : Int),
      (0 : Int) = (0 : Int),
      (3 : Int) = (3 : Int)]) (by kernel_rfl) (.cons (by exact decide_eq_true (by omega)) (.cons (by omega) (.cons (by omega) (.cons (by exact decide_eq_true (by omega)) (.cons (by (rw [ec]; exact beq_iff_eq.2 (by omega))) (.cons (by rfl) (.cons (by rfl) (.cons (by rfl) (.cons (by rfl) .nil))))))))) (Nat.le_of_ble_eq_true (by kernel_rfl))

set_option maxHeartbeats 2000000 in
theorem sv_n2 (s : ByteArray) (x y c : Int) (v u : Int) (i : Nat) (h0 : i = 0) (hi : i < s.size) (hz : s.size ≤ 140737488355328) (ec : IntKind.wrap IntKind.u64 (byteAt s (i : Int)) = c) (c0 : 0 ≤ c) (c1 : c < 256) (hc : 128 ≤ c) (ey : IntKind.wrap IntKind.u64 (x + IntKind.wrap IntKind.u64 (Int.tmod (IntKind.wrap IntKind.u64 (byteAt s (i : Int))) 128 * v)) = y) (eu : IntKind.wrap IntKind.u64 (v * 128) = u) (e7 : 0 ≤ IntKind.wrap IntKind.i64 (7 * (i : Int))) : CodeOk Try.prog 0 (loopOf Try.f32 0) (mkSt 46 [(0, sA s), (5, uA x), (6, uA v), (7, iA i)] []) .normal (mkSt 46 [(0, sA s), (5, uA y), (6, uA u), (7, iA (i + 1 : Nat))] []) :=
  code_run GbB_ok (orc := ⟨[true, false, false, false, false, false], []⟩) (obl := [decide ((↑i : Int) < (↑(ByteArray.size s) : Int)) = true,
      (0 : Int) ≤ (↑i : Int),
      (↑i : Int) < (↑(ByteArray.size s) : Int),
      decide ((↑i : Int) > (0 : Int)) = false,
      false = false,
      ((↑i : Int) == (9 : Int)) = false,
      false = false,
      (128 : Int) ≠ (0 : Int),
      decide (IntKind.wrap IntKind.u64 (byteAt s (↑i : Int)) < (128 : Int)) = false,
      s = s,
      IntKind.wrap IntKind.u64 (x + IntKind.wrap IntKind.u64 (Int.tmod (IntKind.wrap IntKind.u64 (byteAt s (↑i : Int))) (128 : Int) * v)) = y,
      IntKind.wrap IntKind.u64 (v * (128 : Int)) = u,
      IntKind.wrap IntKind.i64 ((↑i : Int) + (1 : Int)) = (↑(i + (1 : Nat)) : Int)]) (by kernel_rfl) (.cons (by exact decide_eq_true (by omega)) (.cons (by omega) (.cons (by omega) (.cons (by exact decide_eq_false (by omega)) (.cons (by rfl) (.cons (by exact decide_eq_false (by omega)) (.cons (by rfl) (.cons (by trivial) (.cons (by (rw [ec]; exact decide_eq_false (by omega))) (.cons (by rfl) (.cons (by assumption) (.cons (by assumption) (.cons (by exact w64 (by omega) (by omega)) .nil))))))))))))) (Nat.le_of_ble_eq_true (by kernel_rfl))

set_option maxHeartbeats 2000000 in
theorem sv_k2 (s : ByteArray) (x y c : Int) (v u : Int) (i : Nat) (h0 : i = 0) (hi : i < s.size) (hz : s.size ≤ 140737488355328) (ec : IntKind.wrap IntKind.u64 (byteAt s (i : Int)) = c) (c0 : 0 ≤ c) (c1 : c < 256) (hc : c < 128) (ey : IntKind.wrap IntKind.u64 (x + IntKind.wrap IntKind.u64 (Int.tmod (IntKind.wrap IntKind.u64 (byteAt s (i : Int))) 128 * v)) = y) (eu : IntKind.wrap IntKind.u64 (v * 128) = u) (e7 : 0 ≤ IntKind.wrap IntKind.i64 (7 * (i : Int))) : CodeOk Try.prog 0 (loopOf Try.f32 0) (mkSt 46 [(0, sA s), (5, uA x), (6, uA v), (7, iA i)] []) .ret (mkSt 46 [(2, uA y), (3, iA (i + 1 : Nat)), (4, iA 0)] []) :=
  code_run GbB_ok (orc := ⟨[true, false, false, false, false, true], []⟩) (obl := [decide ((↑i : Int) < (↑(ByteArray.size s) : Int)) = true,
      (0 : Int) ≤ (↑i : Int),
      (↑i : Int) < (↑(ByteArray.size s) : Int),
      decide ((↑i : Int) > (0 : Int)) = false,
      false = false,
      ((↑i : Int) == (9 : Int)) = false,
      false = false,
      (128 : Int) ≠ (0 : Int),
      decide (IntKind.wrap IntKind.u64 (byteAt s (↑i : Int)) < (128 : Int)) = true,
      IntKind.wrap IntKind.u64 (x + IntKind.wrap IntKind.u64 (Int.tmod (IntKind.wrap IntKind.u64 (byteAt s (↑i : Int))) (128 : Int) * v)) = y,
      IntKind.wrap IntKind.i64 ((↑i : Int) + (1 : Int)) = (↑(i + (1 : Nat)) : Int),
      (0 : Int) = (0 : Int)]) (by kernel_rfl) (.cons (by exact decide_eq_true (by omega)) (.cons (by omega) (.cons (by omega) (.cons (by exact decide_eq_false (by omega)) (.cons (by rfl) (.cons (by exact decide_eq_false (by omega)) (.cons (by rfl) (.cons (by trivial) (.cons (by (rw [ec]; exact decide_eq_true (by omega))) (.cons (by assumption) (.cons (by exact w64 (by omega) (by omega)) (.cons (by rfl) .nil)))))))))))) (Nat.le_of_ble_eq_true (by kernel_rfl))

set_option maxHeartbeats 2000000 in
theorem sv_k3 (s : ByteArray) (x y c : Int) (v u : Int) (i : Nat) (h9 : i = 9) (hi : i < s.size) (hz : s.size ≤ 140737488355328) (ec : IntKind.wrap IntKind.u64 (byteAt s (i : Int)) = c) (c0 : 0 ≤ c) (c1 : c < 256) (hc : c < 128) (hc0 : c ≠ 0) (hc1 : c ≤ 1) (ey : IntKind.wrap IntKind.u64 (x + IntKind.wrap IntKind.u64 (Int.tmod (IntKind.wrap IntKind.u64 (byteAt s (i : Int))) 128 * v)) = y) (eu : IntKind.wrap IntKind.u64 (v * 128) = u) (e7 : 0 ≤ IntKind.wrap IntKind.i64 (7 * (i : Int))) : CodeOk Try.prog 0 (loopOf Try.f32 0) (mkSt 46 [(0, sA s), (5, uA x), (6, uA v), (7, iA i)] []) .ret (mkSt 46 [(2, uA y), (3, iA (i + 1 : Nat)), (4, iA 0)] []) :=
  code_run GbB_ok (orc := ⟨[true, true, false, true, false, true], []⟩) (obl := [decide ((↑i : Int) < (↑(ByteArray.size s) : Int)) = true,
      (0 : Int) ≤ (↑i : Int),
      (↑i : Int) < (↑(ByteArray.size s) : Int),
      decide ((↑i : Int) > (0 : Int)) = true,
      (IntKind.wrap IntKind.u64 (byteAt s (↑i : Int)) == (0 : Int)) = false,
      ((↑i : Int) == (9 : Int)) = true,
      decide (IntKind.wrap IntKind.u64 (byteAt s (↑i : Int)) > (1 : Int)) = false,
      (128 : Int) ≠ (0 : Int),
      decide (IntKind.wrap IntKind.u64 (byteAt s (↑i : Int)) < (128 : Int)) = true,
      IntKind.wrap IntKind.u64 (x + IntKind.wrap IntKind.u64 (Int.tmod (IntKind.wrap IntKind.u64 (byteAt s (↑i : Int))) (128 : Int) * v)) = y,
      IntKind.wrap IntKind.i64 ((↑i : Int) + (1 : Int)) = (↑(i + (1 : Nat)) : Int),
      (0 : Int) = (0 : Int)]) (by kernel_rfl) (.cons (by exact decide_eq_true (by omega)) (.cons (by omega) (.cons (by omega) (.cons (by exact decide_eq_true (by omega)) (.cons (by (rw [ec]; exact beq_eq_false_iff_ne.2 (by omega))) (.cons (by exact decide_eq_true (by omega)) (.cons (by (rw [ec]; exact decide_eq_false (by omega))) (.cons (by trivial) (.cons (by (rw [ec]; exact decide_eq_true (by omega))) (.cons (by assumption) (.cons (by exact w64 (by omega) (by omega)) (.cons (by rfl) .nil)))))))))))) (Nat.le_of_ble_eq_true (by kernel_rfl))

set_option maxHeartbeats 2000000 in
theorem sv_z3 (s : ByteArray) (x c : Int) (v u : Int) (i : Nat) (h9 : i = 9) (hi : i < s.size) (hz : s.size ≤ 140737488355328) (ec : IntKind.wrap IntKind.u64 (byteAt s (i : Int)) = c) (c0 : 0 ≤ c) (c1 : c < 256) (hc : c = 0) : CodeOk Try.prog 0 (loopOf Try.f32 0) (mkSt 46 [(0, sA s), (5, uA x), (6, uA v), (7, iA i)] []) .ret (mkSt 46 [(2, uA 0), (3, iA 0), (4, iA 3)] []) :=
  code_run GbB_ok (orc := ⟨[true, true, true, true], []⟩) (obl := [decide ((↑i : Int) < (↑(ByteArray.size s) : Int)) = true,
      (0 : Int) ≤ (↑i : Int),
      (↑i : Int) < (↑(ByteArray.size s) : Int),
      decide ((↑i : Int) > (0 : Int)) = true,
      (IntKind.wrap IntKind.u64 (byteAt s (↑i : Int)) == (0 : Int)) = true,
      true = true,
      (0 : Int) = (0 : Int),
      (0 : Int) = (0 : Int),
      (3 : Int) = (3 : Int)]) (by kernel_rfl) (.cons (by exact decide_eq_true (by omega)) (.cons (by omega) (.cons (by omega) (.cons (by exact decide_eq_true (by omega)) (.cons (by (rw [ec]; exact beq_iff_eq.2 (by omega))) (.cons (by rfl) (.cons (by rfl) (.cons (by rfl) (.cons (by rfl) .nil))))))))) (Nat.le_of_ble_eq_true (by kernel_rfl))

set_option maxHeartbeats 2000000 in
theorem sv_f3 (s : ByteArray) (x c : Int) (v u : Int) (i : Nat) (h9 : i = 9) (hi : i < s.size) (hz : s.size ≤ 140737488355328) (ec : IntKind.wrap IntKind.u64 (byteAt s (i : Int)) = c) (c0 : 0 ≤ c) (c1 : c < 256) (hc : 1 < c) : CodeOk Try.prog 0 (loopOf Try.f32 0) (mkSt 46 [(0, sA s), (5, uA x), (6, uA v), (7, iA i)] []) .ret (mkSt 46 [(2, uA 0), (3, iA 0), (4, iA 3)] []) :=
  code_run GbB_ok (orc := ⟨[true, true, false, true, true], []⟩) (obl := [decide ((↑i : Int) < (↑(ByteArray.size s) : Int)) = true,
      (0 : Int) ≤ (↑i : Int),
      (↑i : Int) < (↑(ByteArray.size s) : Int),
      decide ((↑i : Int) > (0 : Int)) = true,
      (IntKind.wrap IntKind.u64 (byteAt s (↑i : Int)) == (0 : Int)) = false,
      ((↑i : Int) == (9 : Int)) = true,
      decide (IntKind.wrap IntKind.u64 (byteAt s (↑i : Int)) > (1 : Int)) = true,
      (0 : Int) = (0 : Int),
      (0 : Int) = (0 : Int),
      (3 : Int) = (3 : Int)]) (by kernel_rfl) (.cons (by exact decide_eq_true (by omega)) (.cons (by omega) (.cons (by omega) (.cons (by exact decide_eq_true (by omega)) (.cons (by (rw [ec]; exact beq_eq_false_iff_ne.2 (by omega))) (.cons (by exact decide_eq_true (by omega)) (.cons (by (rw [ec]; exact decide_eq_true (by omega))) (.cons (by rfl) (.cons (by rfl) (.cons (by rfl) .nil)))))))))) (Nat.le_of_ble_eq_true (by kernel_rfl))

set_option maxHeartbeats 2000000 in
theorem sv_e (s : ByteArray) (x : Int) (v u : Int) : CodeOk Try.prog 0 (loopOf Try.f32 0) (mkSt 46 [(0, sA s), (5, uA x), (6, uA v), (7, iA s.size)] []) (.exit 0) (mkSt 46 [] []) :=
  code_run GbB_ok (orc := ⟨[false], []⟩) (obl := [decide ((↑(ByteArray.size s) : Int) < (↑(ByteArray.size s) : Int)) = false]) (by kernel_rfl) (.cons (by exact decide_eq_false (by omega)) .nil) (Nat.le_of_ble_eq_true (by kernel_rfl))

set_option maxHeartbeats 2000000 in
theorem sv_r (s : ByteArray) (x n e : Int) (l0 : CodeOk Try.prog 0 (.loop (loopOf Try.f32 0)) (mkSt 46 [(0, sA s), (5, uA 0), (6, uA 1), (7, iA (0 : Nat))] []) .ret (mkSt 46 [(2, uA x), (3, iA n), (4, iA e)] [])) : PureOk Try.prog 32 ([sA s]) (.tup [.one (.val (.int .u64 x)), .one (.val (.int .i64 n)), .one (.val (.int .i64 e))]) :=
  pure_run GbB_ok Try.func32 (orc := ⟨[], [⟨mkSt 46 [(0, sA s), (5, uA 0), (6, uA 1), (7, iA (0 : Nat))] [], .ret, mkSt 46 [(2, uA x), (3, iA n), (4, iA e)] []⟩]⟩) (obl := [s = s,
      (0 : Int) = (0 : Int),
      (1 : Int) = (1 : Int),
      (0 : Int) = (↑(0 : Nat) : Int),
      (0 : Nat) ≤ (0 : Nat),
      CodeOk Try.prog (0 : Nat) (Code.loop (loopOf Try.f32 (0 : Nat))) (mkSt (46 : Nat) [((0 : Nat), sA s), ((5 : Nat), uA (0 : Int)), ((6 : Nat), uA (1 : Int)), ((7 : Nat), iA (↑(0 : Nat) : Int))] []) Ex.ret (mkSt (46 : Nat) [((2 : Nat), uA x), ((3 : Nat), iA n), ((4 : Nat), iA e)] []),
      x = x,
      n = n,
      e = e]) (by kernel_rfl) (.cons (by rfl) (.cons (by rfl) (.cons (by rfl) (.cons (by rfl) (.cons (by trivial) (.cons (by assumption) (.cons (by rfl) (.cons (by rfl) (.cons (by rfl) .nil)))))))))

set_option maxHeartbeats 2000000 in
theorem sv_s (s : ByteArray) (l0 : CodeOk Try.prog 0 (.loop (loopOf Try.f32 0)) (mkSt 46 [(0, sA s), (5, uA 0), (6, uA 1), (7, iA (0 : Nat))] []) (.exit 0) (mkSt 46 [] [])) : PureOk Try.prog 32 ([sA s]) (.tup [.one (.val (.int .u64 0)), .one (.val (.int .i64 0)), .one (.val (.int .i64 2))]) :=
  pure_run GbB_ok Try.func32 (orc := ⟨[], [⟨mkSt 46 [(0, sA s), (5, uA 0), (6, uA 1), (7, iA (0 : Nat))] [], .exit 0, mkSt 46 [] []⟩]⟩) (obl := [s = s,
      (0 : Int) = (0 : Int),
      (1 : Int) = (1 : Int),
      (0 : Int) = (↑(0 : Nat) : Int),
      (0 : Nat) ≤ (0 : Nat),
      CodeOk Try.prog (0 : Nat) (Code.loop (loopOf Try.f32 (0 : Nat))) (mkSt (46 : Nat) [((0 : Nat), sA s), ((5 : Nat), uA (0 : Int)), ((6 : Nat), uA (1 : Int)), ((7 : Nat), iA (↑(0 : Nat) : Int))] []) (Ex.exit (0 : Nat)) (mkSt (46 : Nat) [] []),
      (0 : Int) = (0 : Int),
      (0 : Int) = (0 : Int),
      (2 : Int) = (2 : Int)]) (by kernel_rfl) (.cons (by rfl) (.cons (by rfl) (.cons (by rfl) (.cons (by rfl) (.cons (by trivial) (.cons (by assumption) (.cons (by rfl) (.cons (by rfl) (.cons (by rfl) .nil)))))))))
end Go.Proofs.Ytecgigeahkijaaa
