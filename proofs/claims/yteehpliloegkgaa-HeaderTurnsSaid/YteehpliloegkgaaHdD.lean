/- Runs of Go code, as printed by a program: no condition beyond those that each states. -/
import Derived.Test.YteehpliloegkgaaHdC
import Derived.Test.YteehpliloegkgaaChecked
import Derived.KernelRfl
namespace Go.Proofs.Yteehpliloegkgaa
set_option linter.unusedVariables false
set_option linter.unusedSimpArgs false
set_option maxRecDepth 100000
open Go.RowKit E
attribute [local irreducible] ringZ inetZ
set_option maxHeartbeats 2000000 in
theorem in_2 (s : ByteArray) (i : Nat) (n : Int) (hz : s.size ≤ 140737488355328) (n0 : 0 ≤ n) (n1 : n ≤ 65535) (w : Int) (hi : i + 1 < s.size) (ew : IntKind.wrap IntKind.u32 (IntKind.wrap IntKind.u32 (IntKind.wrap IntKind.u32 (byteAt s i) * 2 ^ 8) + IntKind.wrap IntKind.u32 (byteAt s ((i : Int) + 1))) = w) (w0 : 0 ≤ w) (w1 : w ≤ 65535) (e1 : IntKind.wrap IntKind.i64 ((i : Int) + 1) = (i : Int) + 1) : CodeOk Try.prog 0 (loopOf Try.f18 0) (mkSt 35 [(0, sA s), (3, .nv (.one (.val (.int .u32 n)))), (4, iA i)] []) .normal (mkSt 35 [(0, sA s), (3, .nv (.one (.val (.int .u32 (ringZ n w))))), (4, iA (i + 2 : Nat))] []) :=
  code_run GhA_ok (orc := ⟨[true, true], []⟩) (obl := [decide ((↑i : Int) < (↑(ByteArray.size s) : Int)) = true,
      (0 : Int) ≤ (↑i : Int),
      (↑i : Int) < (↑(ByteArray.size s) : Int),
      (0 : Int) ≤ (8 : Int),
      decide (IntKind.wrap IntKind.i64 ((↑i : Int) + (1 : Int)) < (↑(ByteArray.size s) : Int)) = true,
      (0 : Int) ≤ IntKind.wrap IntKind.i64 ((↑i : Int) + (1 : Int)),
      IntKind.wrap IntKind.i64 ((↑i : Int) + (1 : Int)) < (↑(ByteArray.size s) : Int),
      (0 : Int) ≤ n,
      n ≤ (65535 : Int),
      (0 : Int) ≤ IntKind.wrap IntKind.u32 (IntKind.wrap IntKind.u32 (IntKind.wrap IntKind.u32 (byteAt s (↑i : Int)) * (2 : Int) ^ (8 : Nat)) + IntKind.wrap IntKind.u32 (byteAt s (IntKind.wrap IntKind.i64 ((↑i : Int) + (1 : Int))))),
      IntKind.wrap IntKind.u32 (IntKind.wrap IntKind.u32 (IntKind.wrap IntKind.u32 (byteAt s (↑i : Int)) * (2 : Int) ^ (8 : Nat)) + IntKind.wrap IntKind.u32 (byteAt s (IntKind.wrap IntKind.i64 ((↑i : Int) + (1 : Int))))) ≤ (65535 : Int),
      s = s,
      ringZ n (IntKind.wrap IntKind.u32 (IntKind.wrap IntKind.u32 (IntKind.wrap IntKind.u32 (byteAt s (↑i : Int)) * (2 : Int) ^ (8 : Nat)) + IntKind.wrap IntKind.u32 (byteAt s (IntKind.wrap IntKind.i64 ((↑i : Int) + (1 : Int)))))) = ringZ n w,
      IntKind.wrap IntKind.i64 ((↑i : Int) + (2 : Int)) = (↑(i + (2 : Nat)) : Int)]) (by kernel_rfl) (.cons (by exact decide_eq_true (by omega)) (.cons (by omega) (.cons (by omega) (.cons (by trivial) (.cons (by (rw [e1]; exact decide_eq_true (by omega))) (.cons (by (rw [e1]; omega)) (.cons (by (rw [e1]; omega)) (.cons (by assumption) (.cons (by assumption) (.cons (by (rw [e1]; omega)) (.cons (by (rw [e1]; omega)) (.cons (by rfl) (.cons (by (rw [e1, ew])) (.cons (by exact w64 (by omega) (by omega)) .nil)))))))))))))) (Nat.le_of_ble_eq_true (by kernel_rfl))

set_option maxHeartbeats 2000000 in
theorem in_1 (s : ByteArray) (i : Nat) (n : Int) (hz : s.size ≤ 140737488355328) (n0 : 0 ≤ n) (n1 : n ≤ 65535) (w : Int) (hi : i + 1 = s.size) (ew : IntKind.wrap IntKind.u32 (IntKind.wrap IntKind.u32 (byteAt s i) * 2 ^ 8) = w) (w0 : 0 ≤ w) (w1 : w ≤ 65535) (e1 : IntKind.wrap IntKind.i64 ((i : Int) + 1) = (i : Int) + 1) : CodeOk Try.prog 0 (loopOf Try.f18 0) (mkSt 35 [(0, sA s), (3, .nv (.one (.val (.int .u32 n)))), (4, iA i)] []) .normal (mkSt 35 [(0, sA s), (3, .nv (.one (.val (.int .u32 (ringZ n w))))), (4, iA (i + 2 : Nat))] []) :=
  code_run GhA_ok (orc := ⟨[true, false], []⟩) (obl := [decide ((↑i : Int) < (↑(ByteArray.size s) : Int)) = true,
      (0 : Int) ≤ (↑i : Int),
      (↑i : Int) < (↑(ByteArray.size s) : Int),
      (0 : Int) ≤ (8 : Int),
      decide (IntKind.wrap IntKind.i64 ((↑i : Int) + (1 : Int)) < (↑(ByteArray.size s) : Int)) = false,
      (0 : Int) ≤ n,
      n ≤ (65535 : Int),
      (0 : Int) ≤ IntKind.wrap IntKind.u32 (IntKind.wrap IntKind.u32 (byteAt s (↑i : Int)) * (2 : Int) ^ (8 : Nat)),
      IntKind.wrap IntKind.u32 (IntKind.wrap IntKind.u32 (byteAt s (↑i : Int)) * (2 : Int) ^ (8 : Nat)) ≤ (65535 : Int),
      s = s,
      ringZ n (IntKind.wrap IntKind.u32 (IntKind.wrap IntKind.u32 (byteAt s (↑i : Int)) * (2 : Int) ^ (8 : Nat))) = ringZ n w,
      IntKind.wrap IntKind.i64 ((↑i : Int) + (2 : Int)) = (↑(i + (2 : Nat)) : Int)]) (by kernel_rfl) (.cons (by exact decide_eq_true (by omega)) (.cons (by omega) (.cons (by omega) (.cons (by trivial) (.cons (by (rw [e1]; exact decide_eq_false (by omega))) (.cons (by assumption) (.cons (by assumption) (.cons (by (rw [ew]; omega)) (.cons (by (rw [ew]; omega)) (.cons (by rfl) (.cons (by (rw [ew])) (.cons (by exact w64 (by omega) (by omega)) .nil)))))))))))) (Nat.le_of_ble_eq_true (by kernel_rfl))

set_option maxHeartbeats 2000000 in
theorem in_e (s : ByteArray) (i : Nat) (n : Int) (hi : s.size ≤ i) : CodeOk Try.prog 0 (loopOf Try.f18 0) (mkSt 35 [(0, sA s), (3, .nv (.one (.val (.int .u32 n)))), (4, iA i)] []) (.exit 0) (mkSt 35 [(3, .nv (.one (.val (.int .u32 n))))] []) :=
  code_run GhA_ok (orc := ⟨[false], []⟩) (obl := [decide ((↑i : Int) < (↑(ByteArray.size s) : Int)) = false,
      n = n]) (by kernel_rfl) (.cons (by exact decide_eq_false (by omega)) (.cons (by rfl) .nil)) (Nat.le_of_ble_eq_true (by kernel_rfl))

set_option maxHeartbeats 2000000 in
theorem in_f (s : ByteArray) (n r : Int) (er : bits BinOp.xor IntKind.u16 IntKind.u16.max (IntKind.wrap IntKind.u16 n) = r) (l0 : CodeOk Try.prog 0 (.loop (loopOf Try.f18 0)) (mkSt 35 [(0, sA s), (3, .nv (.one (.val (.int .u32 0)))), (4, iA (0 : Nat))] []) (.exit 0) (mkSt 35 [(3, .nv (.one (.val (.int .u32 n))))] [])) : PureOk Try.prog 18 ([sA s]) (.nv (.one (.val (.int .u16 r)))) :=
  pure_run GhA_ok Try.func18 (orc := ⟨[], [⟨mkSt 35 [(0, sA s), (3, .nv (.one (.val (.int .u32 0)))), (4, iA (0 : Nat))] [], .exit 0, mkSt 35 [(3, .nv (.one (.val (.int .u32 n))))] []⟩]⟩) (obl := [s = s,
      (0 : Int) = (0 : Int),
      (0 : Int) = (↑(0 : Nat) : Int),
      (0 : Nat) ≤ (0 : Nat),
      CodeOk Try.prog (0 : Nat) (Code.loop (loopOf Try.f18 (0 : Nat))) (mkSt (35 : Nat) [((0 : Nat), sA s), ((3 : Nat), SV.nv (NV.one (At.val (Value.int IntKind.u32 (0 : Int))))), ((4 : Nat), iA (↑(0 : Nat) : Int))] []) (Ex.exit (0 : Nat)) (mkSt (35 : Nat) [((3 : Nat), SV.nv (NV.one (At.val (Value.int IntKind.u32 n))))] []),
      bits BinOp.xor IntKind.u16 (if IntKind.signed IntKind.u16 = true then (-1 : Int) else IntKind.max IntKind.u16) (IntKind.wrap IntKind.u16 n) = r]) (by kernel_rfl) (.cons (by rfl) (.cons (by rfl) (.cons (by rfl) (.cons (by trivial) (.cons (by assumption) (.cons (by assumption) .nil))))))

set_option maxHeartbeats 2000000 in
theorem id_2 (s : ByteArray) (i : Nat) (n : Int) (hz : s.size ≤ 140737488355328) (n0 : 0 ≤ n) (n1 : n ≤ 65535) (w : Int) (hi : i + 1 < s.size) (hp : Int.tmod (i : Int) 2 = 0) (ew : IntKind.wrap IntKind.i64 (IntKind.wrap IntKind.i64 (IntKind.wrap IntKind.i64 (byteAt s i) * 256) + IntKind.wrap IntKind.i64 (byteAt s ((i : Int) + 1))) = w) (w0 : 0 ≤ w) (w1 : w ≤ 65535) (e1 : IntKind.wrap IntKind.i64 ((i : Int) + 1) = (i : Int) + 1) : CodeOk Try.prog 0 (loopOf Try.f21 0) (mkSt 37 [(0, sA s), (3, iA n), (4, iA i)] []) .normal (mkSt 37 [(0, sA s), (3, iA (ringZ n w)), (4, iA (i + 1 : Nat))] []) :=
  code_run GhA_ok (orc := ⟨[true, true, true], []⟩) (obl := [decide ((↑i : Int) < (↑(ByteArray.size s) : Int)) = true,
      (2 : Int) ≠ (0 : Int),
      (Int.tmod (↑i : Int) (2 : Int) == (0 : Int)) = true,
      (0 : Int) ≤ (↑i : Int),
      (↑i : Int) < (↑(ByteArray.size s) : Int),
      decide (IntKind.wrap IntKind.i64 ((↑i : Int) + (1 : Int)) < (↑(ByteArray.size s) : Int)) = true,
      (0 : Int) ≤ IntKind.wrap IntKind.i64 ((↑i : Int) + (1 : Int)),
      IntKind.wrap IntKind.i64 ((↑i : Int) + (1 : Int)) < (↑(ByteArray.size s) : Int),
      (0 : Int) ≤ n,
      n ≤ (65535 : Int),
      (0 : Int) ≤ IntKind.wrap IntKind.i64 (IntKind.wrap IntKind.i64 (IntKind.wrap IntKind.i64 (byteAt s (↑i : Int)) * (256 : Int)) + IntKind.wrap IntKind.i64 (byteAt s (IntKind.wrap IntKind.i64 ((↑i : Int) + (1 : Int))))),
      IntKind.wrap IntKind.i64 (IntKind.wrap IntKind.i64 (IntKind.wrap IntKind.i64 (byteAt s (↑i : Int)) * (256 : Int)) + IntKind.wrap IntKind.i64 (byteAt s (IntKind.wrap IntKind.i64 ((↑i : Int) + (1 : Int))))) ≤ (65535 : Int),
      s = s,
      ringZ n (IntKind.wrap IntKind.i64 (IntKind.wrap IntKind.i64 (IntKind.wrap IntKind.i64 (byteAt s (↑i : Int)) * (256 : Int)) + IntKind.wrap IntKind.i64 (byteAt s (IntKind.wrap IntKind.i64 ((↑i : Int) + (1 : Int)))))) = ringZ n w,
      IntKind.wrap IntKind.i64 ((↑i : Int) + (1 : Int)) = (↑(i + (1 : Nat)) : Int)]) (by kernel_rfl) (.cons (by exact decide_eq_true (by omega)) (.cons (by trivial) (.cons (by exact beq_iff_eq.2 hp) (.cons (by omega) (.cons (by omega) (.cons (by (rw [e1]; exact decide_eq_true (by omega))) (.cons (by (rw [e1]; omega)) (.cons (by (rw [e1]; omega)) (.cons (by assumption) (.cons (by assumption) (.cons (by (rw [e1]; omega)) (.cons (by (rw [e1]; omega)) (.cons (by rfl) (.cons (by (rw [e1, ew])) (.cons (by assumption) .nil))))))))))))))) (Nat.le_of_ble_eq_true (by kernel_rfl))

set_option maxHeartbeats 2000000 in
theorem id_1 (s : ByteArray) (i : Nat) (n : Int) (hz : s.size ≤ 140737488355328) (n0 : 0 ≤ n) (n1 : n ≤ 65535) (w : Int) (hi : i + 1 = s.size) (hp : Int.tmod (i : Int) 2 = 0) (ew : IntKind.wrap IntKind.i64 (IntKind.wrap IntKind.i64 (byteAt s i) * 256) = w) (w0 : 0 ≤ w) (w1 : w ≤ 65535) (e1 : IntKind.wrap IntKind.i64 ((i : Int) + 1) = (i : Int) + 1) : CodeOk Try.prog 0 (loopOf Try.f21 0) (mkSt 37 [(0, sA s), (3, iA n), (4, iA i)] []) .normal (mkSt 37 [(0, sA s), (3, iA (ringZ n w)), (4, iA (i + 1 : Nat))] []) :=
  code_run GhA_ok (orc := ⟨[true, true, false], []⟩) (obl := [decide ((↑i : Int) < (↑(ByteArray.size s) : Int)) = true,
      (2 : Int) ≠ (0 : Int),
      (Int.tmod (↑i : Int) (2 : Int) == (0 : Int)) = true,
      (0 : Int) ≤ (↑i : Int),
      (↑i : Int) < (↑(ByteArray.size s) : Int),
      decide (IntKind.wrap IntKind.i64 ((↑i : Int) + (1 : Int)) < (↑(ByteArray.size s) : Int)) = false,
      (0 : Int) ≤ n,
      n ≤ (65535 : Int),
      (0 : Int) ≤ IntKind.wrap IntKind.i64 (IntKind.wrap IntKind.i64 (byteAt s (↑i : Int)) * (256 : Int)),
      IntKind.wrap IntKind.i64 (IntKind.wrap IntKind.i64 (byteAt s (↑i : Int)) * (256 : Int)) ≤ (65535 : Int),
      s = s,
      ringZ n (IntKind.wrap IntKind.i64 (IntKind.wrap IntKind.i64 (byteAt s (↑i : Int)) * (256 : Int))) = ringZ n w,
      IntKind.wrap IntKind.i64 ((↑i : Int) + (1 : Int)) = (↑(i + (1 : Nat)) : Int)]) (by kernel_rfl) (.cons (by exact decide_eq_true (by omega)) (.cons (by trivial) (.cons (by exact beq_iff_eq.2 hp) (.cons (by omega) (.cons (by omega) (.cons (by (rw [e1]; exact decide_eq_false (by omega))) (.cons (by assumption) (.cons (by assumption) (.cons (by (rw [ew]; omega)) (.cons (by (rw [ew]; omega)) (.cons (by rfl) (.cons (by (rw [ew])) (.cons (by assumption) .nil))))))))))))) (Nat.le_of_ble_eq_true (by kernel_rfl))

set_option maxHeartbeats 2000000 in
theorem id_0 (s : ByteArray) (i : Nat) (n : Int) (hz : s.size ≤ 140737488355328) (n0 : 0 ≤ n) (n1 : n ≤ 65535) (hi : i < s.size) (hp : Int.tmod (i : Int) 2 ≠ 0) : CodeOk Try.prog 0 (loopOf Try.f21 0) (mkSt 37 [(0, sA s), (3, iA n), (4, iA i)] []) .normal (mkSt 37 [(0, sA s), (3, iA n), (4, iA (i + 1 : Nat))] []) :=
  code_run GhA_ok (orc := ⟨[true, false], []⟩) (obl := [decide ((↑i : Int) < (↑(ByteArray.size s) : Int)) = true,
      (2 : Int) ≠ (0 : Int),
      (Int.tmod (↑i : Int) (2 : Int) == (0 : Int)) = false,
      s = s,
      n = n,
      IntKind.wrap IntKind.i64 ((↑i : Int) + (1 : Int)) = (↑(i + (1 : Nat)) : Int)]) (by kernel_rfl) (.cons (by exact decide_eq_true (by omega)) (.cons (by trivial) (.cons (by exact beq_eq_false_iff_ne.2 hp) (.cons (by rfl) (.cons (by rfl) (.cons (by exact w64 (by omega) (by omega)) .nil)))))) (Nat.le_of_ble_eq_true (by kernel_rfl))

set_option maxHeartbeats 2000000 in
theorem id_e (s : ByteArray) (i : Nat) (n : Int) (hi : s.size ≤ i) : CodeOk Try.prog 0 (loopOf Try.f21 0) (mkSt 37 [(0, sA s), (3, iA n), (4, iA i)] []) (.exit 0) (mkSt 37 [(3, iA n)] []) :=
  code_run GhA_ok (orc := ⟨[false], []⟩) (obl := [decide ((↑i : Int) < (↑(ByteArray.size s) : Int)) = false,
      n = n]) (by kernel_rfl) (.cons (by exact decide_eq_false (by omega)) (.cons (by rfl) .nil)) (Nat.le_of_ble_eq_true (by kernel_rfl))

set_option maxHeartbeats 2000000 in
theorem id_f (s : ByteArray) (n : Int) (n0 : 0 ≤ n) (n1 : n ≤ 65535) (l0 : CodeOk Try.prog 0 (.loop (loopOf Try.f21 0)) (mkSt 37 [(0, sA s), (3, iA 0), (4, iA (0 : Nat))] []) (.exit 0) (mkSt 37 [(3, iA n)] [])) : PureOk Try.prog 21 ([sA s]) (iA (65535 - n)) :=
  pure_run GhA_ok Try.func21 (orc := ⟨[], [⟨mkSt 37 [(0, sA s), (3, iA 0), (4, iA (0 : Nat))] [], .exit 0, mkSt 37 [(3, iA n)] []⟩]⟩) (obl := [s = s,
      (0 : Int) = (0 : Int),
      (0 : Int) = (↑(0 : Nat) : Int),
      (0 : Nat) ≤ (0 : Nat),
      CodeOk Try.prog (0 : Nat) (Code.loop (loopOf Try.f21 (0 : Nat))) (mkSt (37 : Nat) [((0 : Nat), sA s), ((3 : Nat), iA (0 : Int)), ((4 : Nat), iA (↑(0 : Nat) : Int))] []) (Ex.exit (0 : Nat)) (mkSt (37 : Nat) [((3 : Nat), iA n)] []),
      IntKind.wrap IntKind.i64 ((65535 : Int) - n) = (65535 : Int) - n]) (by kernel_rfl) (.cons (by rfl) (.cons (by rfl) (.cons (by rfl) (.cons (by trivial) (.cons (by assumption) (.cons (by exact w64 (by omega) (by omega)) .nil))))))

set_option maxHeartbeats 2000000 in
theorem hv_n (n i m : Nat) (L : Nat → Int) (F G : Nat → Int) (hi : i < n) (hn : n ≤ 1000) (hm : m ≤ 2000) (h0 : IntKind.wrap IntKind.u8 (Int.fdiv (L i) (2 ^ 8)) = L i / 256) (h1 : IntKind.wrap IntKind.u8 (L i) = L i % 256) (eG : ∀ j, j < m + 2 → catF m F [L i / 256, L i % 256] j = G j) : CodeOk Try.prog 1 (loopOf Try.f17 0) (mkSt 23 [(3, .nv (.one (.own 1))), (6, .nv (.one (.own 0))), (7, iA n), (8, iA i)] [.ro 1 n (gH L), .row 5 1 m (gB F)]) .normal (mkSt 23 [(3, .nv (.one (.own 1))), (6, .nv (.one (.own 0))), (7, iA n), (8, iA (i + 1))] [.ro 1 n (gH L), .row 5 1 (m + 2) (gB G)]) :=
  code_run GhA_ok (orc := ⟨[true], []⟩) (obl := [decide ((↑i : Int) < (↑n : Int)) = true,
      (0 : Int) ≤ (↑i : Int),
      (↑i : Int) < (↑n : Int),
      Int.toNat (↑i : Int) < n,
      (0 : Int) ≤ (8 : Int),
      m + (2 : Nat) ≤ (4611686018427387904 : Nat),
      (m + (2 : Nat)) * (1 : Nat) ≤ (140737488355328 : Nat),
      (↑n : Int) = (↑n : Int),
      IntKind.wrap IntKind.i64 ((↑i : Int) + (1 : Int)) = (↑i : Int) + (1 : Int),
      n = n,
      ∀ (i : Nat), i < n → L i = L i ∧ True,
      m + (2 : Nat) = m + (2 : Nat),
      ∀ (i_1 : Nat), i_1 < m + (2 : Nat) → AllT (leAts ([(nat_lit 0, Bd.same (nat_lit 0))] ++ ([((1 : Nat), Bd.same (3 : Nat))] ++ ([((0 : Nat), Bd.same (0 : Nat))] ++ ([] ++ ([] ++ [])))) ++ ([] ++ ([] ++ ([] ++ [])) ++ ([] ++ []))) (2 : Nat) (if (2 : Nat) = (1 : Nat) then if i_1 = m then [At.val (Value.int IntKind.u8 (IntKind.wrap IntKind.u8 (Int.fdiv (L (Int.toNat (↑i : Int))) ((2 : Int) ^ (8 : Nat)))))] else gB F i_1 else if i_1 < m then gB F i_1 else litG (1 : Nat) [At.val (Value.int IntKind.u8 (IntKind.wrap IntKind.u8 (Int.fdiv (L (Int.toNat (↑i : Int))) ((2 : Int) ^ (8 : Nat))))), At.val (Value.int IntKind.u8 (IntKind.wrap IntKind.u8 (L (Int.toNat (↑i : Int)))))] (i_1 - m)) (gB G i_1))]) (by kernel_rfl) (.cons (by exact decide_eq_true (by omega)) (.cons (by omega) (.cons (by omega) (.cons (by assumption) (.cons (by trivial) (.cons (by omega) (.cons (by omega) (.cons (by rfl) (.cons (by exact w64 (by omega) (by omega)) (.cons (by rfl) (.cons (by (intro _ _; exact ⟨rfl, trivial⟩)) (.cons (by rfl) (.cons (by exact hv_le h0 h1 eG _ _) .nil))))))))))))) (Nat.le_of_ble_eq_true (by kernel_rfl))

set_option maxHeartbeats 2000000 in
theorem hv_e (n m : Nat) (L F : Nat → Int) : CodeOk Try.prog 1 (loopOf Try.f17 0) (mkSt 23 [(3, .nv (.one (.own 1))), (6, .nv (.one (.own 0))), (7, iA n), (8, iA n)] [.ro 1 n (gH L), .row 5 1 m (gB F)]) (.exit 0) (mkSt 23 [(3, .nv (.one (.own 1)))] [.ro 1 n (gH L), .row 5 1 m (gB F)]) :=
  code_run GhA_ok (orc := ⟨[false], []⟩) (obl := [decide ((↑n : Int) < (↑n : Int)) = false,
      n = n,
      ∀ (i : Nat), i < n → L i = L i ∧ True,
      m = m,
      ∀ (i : Nat), i < m → F i = F i ∧ True]) (by kernel_rfl) (.cons (by exact decide_eq_false (by omega)) (.cons (by rfl) (.cons (by (intro _ _; exact ⟨rfl, trivial⟩)) (.cons (by rfl) (.cons (by (intro _ _; exact ⟨rfl, trivial⟩)) .nil))))) (Nat.le_of_ble_eq_true (by kernel_rfl))

set_option maxHeartbeats 2000000 in
theorem hv_f (n m : Nat) (L F0 F : Nat → Int) (l0 : CodeOk Try.prog 1 (.loop (loopOf Try.f17 0)) (mkSt 23 [(3, .nv (.one (.own 1))), (6, .nv (.one (.own 0))), (7, iA n), (8, iA 0)] [.ro 1 n (gH L), .row 5 1 0 (gB F0)]) (.exit 0) (mkSt 23 [(3, .nv (.one (.own 1)))] [.ro 1 n (gH L), .row 5 1 m (gB F)])) : FnOk Try.prog 17 ([.nv (.one (.own 0))]) ([.ro 1 n (gH L)]) (.nv (.one (.val (.string (bstr m F))))) ([.gone]) :=
  fn_run GhA_ok Try.func17 (orc := ⟨[], [⟨mkSt 23 [(3, .nv (.one (.own 1))), (6, .nv (.one (.own 0))), (7, iA n), (8, iA 0)] [.ro 1 n (gH L), .row 5 1 0 (gB F0)], .exit 0, mkSt 23 [(3, .nv (.one (.own 1)))] [.ro 1 n (gH L), .row 5 1 m (gB F)]⟩]⟩) (obl := [(↑n : Int) = (↑n : Int),
      (0 : Int) = (0 : Int),
      n = n,
      ∀ (i : Nat), i < n → L i = L i ∧ True,
      (0 : Nat) = (0 : Nat),
      (1 : Nat) ≤ (2 : Nat),
      CodeOk Try.prog (1 : Nat) (Code.loop (loopOf Try.f17 (0 : Nat))) (mkSt (23 : Nat) [((3 : Nat), SV.nv (NV.one (At.own (1 : Nat)))), ((6 : Nat), SV.nv (NV.one (At.own (0 : Nat)))), ((7 : Nat), iA (↑n : Int)), ((8 : Nat), iA (0 : Int))] [Seg.ro (1 : Nat) n (gH L), Seg.row (5 : TypeId) (1 : Nat) (0 : Nat) (gB F0)]) (Ex.exit (0 : Nat)) (mkSt (23 : Nat) [((3 : Nat), SV.nv (NV.one (At.own (1 : Nat))))] [Seg.ro (1 : Nat) n (gH L), Seg.row (5 : TypeId) (1 : Nat) m (gB F)]),
      bytesG m (gB F),
      rowStr m (gB F) = bstr m F]) (by kernel_rfl) (.cons (by rfl) (.cons (by rfl) (.cons (by rfl) (.cons (by (intro _ _; exact ⟨rfl, trivial⟩)) (.cons (by rfl) (.cons (by trivial) (.cons (by assumption) (.cons (by (intro _ _; rfl)) (.cons (by rfl) .nil))))))))) (Nat.le_of_ble_eq_true (by kernel_rfl))
end Go.Proofs.Yteehpliloegkgaa
