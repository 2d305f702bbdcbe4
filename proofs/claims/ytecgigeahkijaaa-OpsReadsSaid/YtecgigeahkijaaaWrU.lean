/- Runs of Go code, as printed by a program: no condition beyond those that each states. -/
import Derived.Test.YtecgigeahkijaaaWrT
import Derived.Test.YtecgigeahkijaaaChecked
import Derived.KernelRfl
namespace Go.Proofs.Ytecgigeahkijaaa
set_option linter.unusedVariables false
set_option linter.unusedSimpArgs false
set_option maxRecDepth 100000
open Go.RowKit E
set_option maxHeartbeats 2000000 in
theorem on_1 (k n : Int) (s : ByteArray) (h1 : k < 1) : PureOk Try.prog 29 ([.nv (.agg [.val (.int .i64 k), .val (.int .u64 n), .val (.string s)])]) (.tup [.one (.val (.string ⟨#[]⟩)), .one (.val (.int .i64 6))]) :=
  pure_run Gb9_ok Try.func29 (orc := ⟨[true, true, true, true], []⟩) (obl := [decide (k < (1 : Int)) = true,
      true = true,
      true = true,
      true = true,
      (ByteArray.mk #[]) = (ByteArray.mk #[]),
      (6 : Int) = (6 : Int)]) (by kernel_rfl) (.cons (by exact decide_eq_true (by omega)) (.cons (by rfl) (.cons (by rfl) (.cons (by rfl) (.cons (by rfl) (.cons (by rfl) .nil))))))

set_option maxHeartbeats 2000000 in
theorem on_2 (k n : Int) (s : ByteArray) (h1 : 6 < k) : PureOk Try.prog 29 ([.nv (.agg [.val (.int .i64 k), .val (.int .u64 n), .val (.string s)])]) (.tup [.one (.val (.string ⟨#[]⟩)), .one (.val (.int .i64 6))]) :=
  pure_run Gb9_ok Try.func29 (orc := ⟨[false, true, true, true], []⟩) (obl := [decide (k < (1 : Int)) = false,
      decide (k > (6 : Int)) = true,
      true = true,
      true = true,
      (ByteArray.mk #[]) = (ByteArray.mk #[]),
      (6 : Int) = (6 : Int)]) (by kernel_rfl) (.cons (by exact decide_eq_false (by omega)) (.cons (by exact decide_eq_true (by omega)) (.cons (by rfl) (.cons (by rfl) (.cons (by rfl) (.cons (by rfl) .nil))))))

set_option maxHeartbeats 2000000 in
theorem on_3 (n : Int) (s : ByteArray) (h1 : n ≠ 0) : PureOk Try.prog 29 ([.nv (.agg [.val (.int .i64 6), .val (.int .u64 n), .val (.string s)])]) (.tup [.one (.val (.string ⟨#[]⟩)), .one (.val (.int .i64 6))]) :=
  pure_run Gb9_ok Try.func29 (orc := ⟨[false, false, true, true, true], []⟩) (obl := [decide ((6 : Int) < (1 : Int)) = false,
      decide ((6 : Int) > (6 : Int)) = false,
      ((6 : Int) == (6 : Int)) = true,
      (n != (0 : Int)) = true,
      true = true,
      (ByteArray.mk #[]) = (ByteArray.mk #[]),
      (6 : Int) = (6 : Int)]) (by kernel_rfl) (.cons (by rfl) (.cons (by rfl) (.cons (by rfl) (.cons (by exact bne_iff_ne.2 (by omega)) (.cons (by rfl) (.cons (by rfl) (.cons (by rfl) .nil)))))))

set_option maxHeartbeats 2000000 in
theorem on_4 (k n : Int) (s : ByteArray) (h1 : 1 ≤ k) (h6 : k ≤ 5) (hs : s.size ≠ 0) : PureOk Try.prog 29 ([.nv (.agg [.val (.int .i64 k), .val (.int .u64 n), .val (.string s)])]) (.tup [.one (.val (.string ⟨#[]⟩)), .one (.val (.int .i64 6))]) :=
  pure_run Gb9_ok Try.func29 (orc := ⟨[false, false, false, false, true, true], []⟩) (obl := [decide (k < (1 : Int)) = false,
      decide (k > (6 : Int)) = false,
      (k == (6 : Int)) = false,
      false = false,
      (k != (6 : Int)) = true,
      (!ByteArray.toList s == ByteArray.toList (ByteArray.mk #[])) = true,
      (ByteArray.mk #[]) = (ByteArray.mk #[]),
      (6 : Int) = (6 : Int)]) (by kernel_rfl) (.cons (by exact decide_eq_false (by omega)) (.cons (by exact decide_eq_false (by omega)) (.cons (by exact decide_eq_false (by omega)) (.cons (by rfl) (.cons (by exact bne_iff_ne.2 (by omega)) (.cons (by (rw [str_ne hs]; rfl)) (.cons (by rfl) (.cons (by rfl) .nil))))))))

set_option maxHeartbeats 2000000 in
theorem on_5 (s : ByteArray) (hl : s.size > 65535) : PureOk Try.prog 29 ([.nv (.agg [.val (.int .i64 6), .val (.int .u64 0), .val (.string s)])]) (.tup [.one (.val (.string ⟨#[]⟩)), .one (.val (.int .i64 4))]) :=
  pure_run Gb9_ok Try.func29 (orc := ⟨[false, false, true, false, false, false, false, false, false, true], [unroll 1]⟩) (obl := [decide ((6 : Int) < (1 : Int)) = false,
      decide ((6 : Int) > (6 : Int)) = false,
      ((6 : Int) == (6 : Int)) = true,
      ((0 : Int) != (0 : Int)) = false,
      ((6 : Int) != (6 : Int)) = false,
      false = false,
      decide ((0 : Int) < widthZ (6 : Int)) = false,
      decide (widthZ (6 : Int) > (0 : Int)) = false,
      false = false,
      decide ((↑(ByteArray.size s) : Int) > (65535 : Int)) = true,
      (ByteArray.mk #[]) = (ByteArray.mk #[]),
      (4 : Int) = (4 : Int)]) (by kernel_rfl) (.cons (by rfl) (.cons (by rfl) (.cons (by rfl) (.cons (by rfl) (.cons (by rfl) (.cons (by rfl) (.cons (by rfl) (.cons (by rfl) (.cons (by rfl) (.cons (by exact decide_eq_true (by omega)) (.cons (by rfl) (.cons (by rfl) .nil))))))))))))

set_option maxHeartbeats 2000000 in
theorem on_6 (s : ByteArray) (hl : s.size ≤ 65535) (ew : IntKind.wrap IntKind.u64 (s.size : Int) = s.size) (hv : (strL (varL 9 s.size)).size ≤ 10) : PureOk Try.prog 29 ([.nv (.agg [.val (.int .i64 6), .val (.int .u64 0), .val (.string s)])]) (.tup [.one (.val (.string (strL (varL 9 s.size) ++ s))), .one (.val (.int .i64 0))]) :=
  pure_run Gb9_ok Try.func29 (orc := ⟨[false, false, true, false, false, false, false, false, false, false, true], [unroll 1]⟩) (obl := [decide ((6 : Int) < (1 : Int)) = false,
      decide ((6 : Int) > (6 : Int)) = false,
      ((6 : Int) == (6 : Int)) = true,
      ((0 : Int) != (0 : Int)) = false,
      ((6 : Int) != (6 : Int)) = false,
      false = false,
      decide ((0 : Int) < widthZ (6 : Int)) = false,
      decide (widthZ (6 : Int) > (0 : Int)) = false,
      false = false,
      decide ((↑(ByteArray.size s) : Int) > (65535 : Int)) = false,
      ((6 : Int) == (6 : Int)) = true,
      (0 : Int) ≤ IntKind.wrap IntKind.u64 (↑(ByteArray.size s) : Int),
      IntKind.wrap IntKind.u64 (↑(ByteArray.size s) : Int) ≤ (18446744073709551615 : Int),
      IntKind.wrap IntKind.u64 (↑(ByteArray.size s) : Int) < (2 : Int) * (128 : Int) ^ (9 : Nat),
      (9 : Nat) ≤ (100 : Nat),
      (↑(ByteArray.size (strL (varL (9 : Nat) (IntKind.wrap IntKind.u64 (↑(ByteArray.size s) : Int)))) + ByteArray.size s) : Int) ≤ IntKind.max IntKind.i64,
      strL (varL (9 : Nat) (IntKind.wrap IntKind.u64 (↑(ByteArray.size s) : Int))) ++ s = strL (varL (9 : Nat) (↑(ByteArray.size s) : Int)) ++ s,
      (0 : Int) = (0 : Int)]) (by kernel_rfl) (.cons (by rfl) (.cons (by rfl) (.cons (by rfl) (.cons (by rfl) (.cons (by rfl) (.cons (by rfl) (.cons (by rfl) (.cons (by rfl) (.cons (by rfl) (.cons (by exact decide_eq_false (by omega)) (.cons (by rfl) (.cons (by (rw [ew]; omega)) (.cons (by (rw [ew]; omega)) (.cons (by (rw [ew]; omega)) (.cons (by trivial) (.cons (by (rw [ew, show IntKind.max IntKind.i64 = 9223372036854775807 from rfl]; omega)) (.cons (by (simp [*]; done)) (.cons (by rfl) .nil))))))))))))))))))

set_option maxHeartbeats 2000000 in
theorem on_7 (n : Int) (s : ByteArray) (hs : s.size = 0) (h0 : 0 ≤ n) (h1 : n ≤ 18446744073709551615) : PureOk Try.prog 29 ([.nv (.agg [.val (.int .i64 5), .val (.int .u64 n), .val (.string s)])]) (.tup [.one (.val (.string (strL (varL 9 n)))), .one (.val (.int .i64 0))]) :=
  pure_run Gb9_ok Try.func29 (orc := ⟨[false, false, false, false, true, false, false, false, false, false, false, true], [unroll 1]⟩) (obl := [decide ((5 : Int) < (1 : Int)) = false,
      decide ((5 : Int) > (6 : Int)) = false,
      ((5 : Int) == (6 : Int)) = false,
      false = false,
      ((5 : Int) != (6 : Int)) = true,
      (!ByteArray.toList s == ByteArray.toList (ByteArray.mk #[])) = false,
      decide ((0 : Int) < widthZ (5 : Int)) = false,
      decide (widthZ (5 : Int) > (0 : Int)) = false,
      false = false,
      decide ((↑(ByteArray.size s) : Int) > (65535 : Int)) = false,
      ((5 : Int) == (6 : Int)) = false,
      ((5 : Int) == (5 : Int)) = true,
      (0 : Int) ≤ n,
      n ≤ (18446744073709551615 : Int),
      n < (2 : Int) * (128 : Int) ^ (9 : Nat),
      (9 : Nat) ≤ (100 : Nat),
      strL (varL (9 : Nat) n) = strL (varL (9 : Nat) n),
      (0 : Int) = (0 : Int)]) (by kernel_rfl) (.cons (by rfl) (.cons (by rfl) (.cons (by rfl) (.cons (by rfl) (.cons (by rfl) (.cons (by (rw [str_eq hs]; rfl)) (.cons (by rfl) (.cons (by rfl) (.cons (by rfl) (.cons (by exact decide_eq_false (by omega)) (.cons (by rfl) (.cons (by rfl) (.cons (by assumption) (.cons (by assumption) (.cons (by omega) (.cons (by trivial) (.cons (by rfl) (.cons (by rfl) .nil))))))))))))))))))

set_option maxHeartbeats 2000000 in
theorem on_n (k n x w : Int) (s : ByteArray) (i : Nat) (hi : (i : Int) < w) (hw : w ≤ 8) (h0 : 0 ≤ x) (h1 : x ≤ 18446744073709551615) (e1 : IntKind.wrap IntKind.u64 (Int.tdiv x 256) = x / 256) : CodeOk Try.prog 0 (loopOf Try.f29 0) (mkSt 78 [(1, .nv (.one (.ptr 0 0))), (4, iA w), (5, uA x), (6, iA i)] [.box 47 [.val (.int .i64 k), .val (.int .u64 n), .val (.string s)]]) .normal (mkSt 78 [(1, .nv (.one (.ptr 0 0))), (4, iA w), (5, uA (x / 256)), (6, iA (i + 1 : Nat))] [.box 47 [.val (.int .i64 k), .val (.int .u64 n), .val (.string s)]]) :=
  code_run Gb9_ok (orc := ⟨[true], []⟩) (obl := [decide ((↑i : Int) < w) = true,
      (256 : Int) ≠ (0 : Int),
      (0 : Nat) = (0 : Nat),
      w = w,
      IntKind.wrap IntKind.u64 (Int.tdiv x (256 : Int)) = x / (256 : Int),
      IntKind.wrap IntKind.i64 ((↑i : Int) + (1 : Int)) = (↑(i + (1 : Nat)) : Int),
      k = k,
      n = n,
      s = s]) (by kernel_rfl) (.cons (by exact decide_eq_true (by omega)) (.cons (by trivial) (.cons (by rfl) (.cons (by rfl) (.cons (by assumption) (.cons (by exact w64 (by omega) (by omega)) (.cons (by rfl) (.cons (by rfl) (.cons (by rfl) .nil))))))))) (Nat.le_of_ble_eq_true (by kernel_rfl))

set_option maxHeartbeats 2000000 in
theorem on_e (k n x w : Int) (s : ByteArray) : CodeOk Try.prog 0 (loopOf Try.f29 0) (mkSt 78 [(1, .nv (.one (.ptr 0 0))), (4, iA w), (5, uA x), (6, iA w)] [.box 47 [.val (.int .i64 k), .val (.int .u64 n), .val (.string s)]]) (.exit 0) (mkSt 78 [(1, .nv (.one (.ptr 0 0))), (4, iA w), (5, uA x)] [.box 47 [.val (.int .i64 k), .val (.int .u64 n), .val (.string s)]]) :=
  code_run Gb9_ok (orc := ⟨[false], []⟩) (obl := [decide (w < w) = false,
      (0 : Nat) = (0 : Nat),
      w = w,
      x = x,
      k = k,
      n = n,
      s = s]) (by kernel_rfl) (.cons (by exact decide_eq_false (by omega)) (.cons (by rfl) (.cons (by rfl) (.cons (by rfl) (.cons (by rfl) (.cons (by rfl) (.cons (by rfl) .nil))))))) (Nat.le_of_ble_eq_true (by kernel_rfl))

set_option maxHeartbeats 2000000 in
theorem on_o (k n x w : Int) (s : ByteArray) (h1 : 1 ≤ k) (h4 : k ≤ 4) (hs : s.size = 0) (hk : widthZ k = w) (hw : 0 < w) (hx : 0 < x) (l0 : CodeOk Try.prog 0 (.loop (loopOf Try.f29 0)) (mkSt 78 [(1, .nv (.one (.ptr 0 0))), (4, iA w), (5, uA n), (6, iA (0 : Nat))] [.box 47 [.val (.int .i64 k), .val (.int .u64 n), .val (.string s)]]) (.exit 0) (mkSt 78 [(1, .nv (.one (.ptr 0 0))), (4, iA w), (5, uA x)] [.box 47 [.val (.int .i64 k), .val (.int .u64 n), .val (.string s)]])) : PureOk Try.prog 29 ([.nv (.agg [.val (.int .i64 k), .val (.int .u64 n), .val (.string s)])]) (.tup [.one (.val (.string ⟨#[]⟩)), .one (.val (.int .i64 5))]) :=
  pure_run Gb9_ok Try.func29 (orc := ⟨[false, false, false, false, true, false, true, true], [⟨mkSt 78 [(1, .nv (.one (.ptr 0 0))), (4, iA w), (5, uA n), (6, iA (0 : Nat))] [.box 47 [.val (.int .i64 k), .val (.int .u64 n), .val (.string s)]], .exit 0, mkSt 78 [(1, .nv (.one (.ptr 0 0))), (4, iA w), (5, uA x)] [.box 47 [.val (.int .i64 k), .val (.int .u64 n), .val (.string s)]]⟩]⟩) (obl := [decide (k < (1 : Int)) = false,
      decide (k > (6 : Int)) = false,
      (k == (6 : Int)) = false,
      false = false,
      (k != (6 : Int)) = true,
      (!ByteArray.toList s == ByteArray.toList (ByteArray.mk #[])) = false,
      (0 : Nat) = (0 : Nat),
      widthZ k = w,
      n = n,
      (0 : Int) = (↑(0 : Nat) : Int),
      k = k,
      n = n,
      s = s,
      (0 : Nat) ≤ (1 : Nat),
      CodeOk Try.prog (0 : Nat) (Code.loop (loopOf Try.f29 (0 : Nat))) (mkSt (78 : Nat) [((1 : Nat), SV.nv (NV.one (At.ptr (0 : Nat) (0 : Nat)))), ((4 : Nat), iA w), ((5 : Nat), uA n), ((6 : Nat), iA (↑(0 : Nat) : Int))] [Seg.box (47 : TypeId) [At.val (Value.int IntKind.i64 k), At.val (Value.int IntKind.u64 n), At.val (Value.string s)]]) (Ex.exit (0 : Nat)) (mkSt (78 : Nat) [((1 : Nat), SV.nv (NV.one (At.ptr (0 : Nat) (0 : Nat)))), ((4 : Nat), iA w), ((5 : Nat), uA x)] [Seg.box (47 : TypeId) [At.val (Value.int IntKind.i64 k), At.val (Value.int IntKind.u64 n), At.val (Value.string s)]]),
      decide (w > (0 : Int)) = true,
      decide (x > (0 : Int)) = true,
      (ByteArray.mk #[]) = (ByteArray.mk #[]),
      (5 : Int) = (5 : Int)]) (by kernel_rfl) (.cons (by exact decide_eq_false (by omega)) (.cons (by exact decide_eq_false (by omega)) (.cons (by exact decide_eq_false (by omega)) (.cons (by rfl) (.cons (by exact bne_iff_ne.2 (by omega)) (.cons (by (rw [str_eq hs]; rfl)) (.cons (by rfl) (.cons (by assumption) (.cons (by rfl) (.cons (by rfl) (.cons (by rfl) (.cons (by rfl) (.cons (by rfl) (.cons (by trivial) (.cons (by assumption) (.cons (by exact decide_eq_true (by omega)) (.cons (by exact decide_eq_true (by omega)) (.cons (by rfl) (.cons (by rfl) .nil)))))))))))))))))))

set_option maxHeartbeats 2000000 in
theorem on_w (k n x w : Int) (s : ByteArray) (h1 : 1 ≤ k) (h4 : k ≤ 4) (hs : s.size = 0) (hk : widthZ k = w) (hw : 0 < w) (hw8 : w ≤ 8) (hx : ¬ 0 < x) (h0 : 0 ≤ n) (hn : n ≤ 18446744073709551615) (l0 : CodeOk Try.prog 0 (.loop (loopOf Try.f29 0)) (mkSt 78 [(1, .nv (.one (.ptr 0 0))), (4, iA w), (5, uA n), (6, iA (0 : Nat))] [.box 47 [.val (.int .i64 k), .val (.int .u64 n), .val (.string s)]]) (.exit 0) (mkSt 78 [(1, .nv (.one (.ptr 0 0))), (4, iA w), (5, uA x)] [.box 47 [.val (.int .i64 k), .val (.int .u64 n), .val (.string s)]])) : PureOk Try.prog 29 ([.nv (.agg [.val (.int .i64 k), .val (.int .u64 n), .val (.string s)])]) (.tup [.one (.val (.string (strL (hiL w.toNat n)))), .one (.val (.int .i64 0))]) :=
  pure_run Gb9_ok Try.func29 (orc := ⟨[false, false, false, false, true, false, true, false, false, false, false], [⟨mkSt 78 [(1, .nv (.one (.ptr 0 0))), (4, iA w), (5, uA n), (6, iA (0 : Nat))] [.box 47 [.val (.int .i64 k), .val (.int .u64 n), .val (.string s)]], .exit 0, mkSt 78 [(1, .nv (.one (.ptr 0 0))), (4, iA w), (5, uA x)] [.box 47 [.val (.int .i64 k), .val (.int .u64 n), .val (.string s)]]⟩]⟩) (obl := [decide (k < (1 : Int)) = false,
      decide (k > (6 : Int)) = false,
      (k == (6 : Int)) = false,
      false = false,
      (k != (6 : Int)) = true,
      (!ByteArray.toList s == ByteArray.toList (ByteArray.mk #[])) = false,
      (0 : Nat) = (0 : Nat),
      widthZ k = w,
      n = n,
      (0 : Int) = (↑(0 : Nat) : Int),
      k = k,
      n = n,
      s = s,
      (0 : Nat) ≤ (1 : Nat),
      CodeOk Try.prog (0 : Nat) (Code.loop (loopOf Try.f29 (0 : Nat))) (mkSt (78 : Nat) [((1 : Nat), SV.nv (NV.one (At.ptr (0 : Nat) (0 : Nat)))), ((4 : Nat), iA w), ((5 : Nat), uA n), ((6 : Nat), iA (↑(0 : Nat) : Int))] [Seg.box (47 : TypeId) [At.val (Value.int IntKind.i64 k), At.val (Value.int IntKind.u64 n), At.val (Value.string s)]]) (Ex.exit (0 : Nat)) (mkSt (78 : Nat) [((1 : Nat), SV.nv (NV.one (At.ptr (0 : Nat) (0 : Nat)))), ((4 : Nat), iA w), ((5 : Nat), uA x)] [Seg.box (47 : TypeId) [At.val (Value.int IntKind.i64 k), At.val (Value.int IntKind.u64 n), At.val (Value.string s)]]),
      decide (w > (0 : Int)) = true,
      decide (x > (0 : Int)) = false,
      decide ((↑(ByteArray.size s) : Int) > (65535 : Int)) = false,
      (k == (6 : Int)) = false,
      (k == (5 : Int)) = false,
      (0 : Int) ≤ n,
      n ≤ (18446744073709551615 : Int),
      (0 : Int) ≤ w,
      Int.toNat w ≤ (8 : Nat),
      w ≤ (8 : Int),
      strL (hiL (Int.toNat w) n) = strL (hiL (Int.toNat w) n),
      (0 : Int) = (0 : Int)]) (by kernel_rfl) (.cons (by exact decide_eq_false (by omega)) (.cons (by exact decide_eq_false (by omega)) (.cons (by exact decide_eq_false (by omega)) (.cons (by rfl) (.cons (by exact bne_iff_ne.2 (by omega)) (.cons (by (rw [str_eq hs]; rfl)) (.cons (by rfl) (.cons (by assumption) (.cons (by rfl) (.cons (by rfl) (.cons (by rfl) (.cons (by rfl) (.cons (by rfl) (.cons (by trivial) (.cons (by assumption) (.cons (by exact decide_eq_true (by omega)) (.cons (by exact decide_eq_false (by omega)) (.cons (by exact decide_eq_false (by omega)) (.cons (by exact decide_eq_false (by omega)) (.cons (by exact decide_eq_false (by omega)) (.cons (by assumption) (.cons (by assumption) (.cons (by omega) (.cons (by omega) (.cons (by assumption) (.cons (by rfl) (.cons (by rfl) .nil)))))))))))))))))))))))))))
end Go.Proofs.Ytecgigeahkijaaa
