/- Runs of Go code, as printed by a program: no condition beyond those that each states. -/
import Derived.Test.YtoincoicgfnbiaaGaA
import Derived.Test.YtoincoicgfnbiaaChecked
import Derived.KernelRfl
namespace Go.Proofs.Ytoincoicgfnbiaa
set_option linter.unusedVariables false
set_option linter.unusedSimpArgs false
set_option maxRecDepth 100000
open Go.RowKit E
attribute [local irreducible] allS okN chk pre sl slt opB opZ
set_option maxHeartbeats 2000000 in
theorem ck_r (n i : Nat) (O S : Nat → Int) (hi : i < n) (hn : n ≤ 64) (h1 : 1 ≤ S i) (h2 : S i ≤ 4294967296) : CodeOk Try.prog 1 (loopOf Try.f8 0) (mkSt 28 [(13, .nv (.one (.own 0))), (14, iA n), (15, iA i)] [.ro 2 n (gSl O S)]) .normal (mkSt 28 [(13, .nv (.one (.own 0))), (14, iA n), (15, iA (i + 1 : Nat))] [.ro 2 n (gSl O S)]) :=
  code_run G0_ok (orc := ⟨[true, false, false], []⟩) (obl := [decide ((↑i : Int) < (↑n : Int)) = true,
      (0 : Int) ≤ (↑i : Int),
      (↑i : Int) < (↑n : Int),
      Int.toNat (↑i : Int) < n,
      decide (S (Int.toNat (↑i : Int)) < (1 : Int)) = false,
      decide (S (Int.toNat (↑i : Int)) > (4294967296 : Int)) = false,
      (↑n : Int) = (↑n : Int),
      IntKind.wrap IntKind.i64 ((↑i : Int) + (1 : Int)) = (↑(i + (1 : Nat)) : Int),
      n = n,
      ∀ (i : Nat), i < n → O i = O i ∧ S i = S i ∧ True]) (by kernel_rfl) (.cons (by exact decide_eq_true (by omega)) (.cons (by omega) (.cons (by omega) (.cons (by assumption) (.cons (by exact decide_eq_false (Int.not_lt.2 h1)) (.cons (by exact decide_eq_false (Int.not_lt.2 h2)) (.cons (by rfl) (.cons (by exact w64 (by omega) (by omega)) (.cons (by rfl) (.cons (by (simp; done)) .nil)))))))))) (Nat.le_of_ble_eq_true (by kernel_rfl))

set_option maxHeartbeats 2000000 in
theorem ck_b1 (n i : Nat) (O S : Nat → Int) (hi : i < n) (hn : n ≤ 64) (h1 : S i < 1) : CodeOk Try.prog 1 (loopOf Try.f8 0) (mkSt 28 [(13, .nv (.one (.own 0))), (14, iA n), (15, iA i)] [.ro 2 n (gSl O S)]) .ret (mkSt 28 [(2, iA 6)] [.ro 2 n (gSl O S)]) :=
  code_run G0_ok (orc := ⟨[true, true, true], []⟩) (obl := [decide ((↑i : Int) < (↑n : Int)) = true,
      (0 : Int) ≤ (↑i : Int),
      (↑i : Int) < (↑n : Int),
      Int.toNat (↑i : Int) < n,
      decide (S (Int.toNat (↑i : Int)) < (1 : Int)) = true,
      true = true,
      (6 : Int) = (6 : Int),
      n = n,
      ∀ (i : Nat), i < n → O i = O i ∧ S i = S i ∧ True]) (by kernel_rfl) (.cons (by exact decide_eq_true (by omega)) (.cons (by omega) (.cons (by omega) (.cons (by assumption) (.cons (by exact decide_eq_true h1) (.cons (by rfl) (.cons (by rfl) (.cons (by rfl) (.cons (by (simp; done)) .nil))))))))) (Nat.le_of_ble_eq_true (by kernel_rfl))

set_option maxHeartbeats 2000000 in
theorem ck_b2 (n i : Nat) (O S : Nat → Int) (hi : i < n) (hn : n ≤ 64) (h1 : ¬ S i < 1) (h2 : 4294967296 < S i) : CodeOk Try.prog 1 (loopOf Try.f8 0) (mkSt 28 [(13, .nv (.one (.own 0))), (14, iA n), (15, iA i)] [.ro 2 n (gSl O S)]) .ret (mkSt 28 [(2, iA 6)] [.ro 2 n (gSl O S)]) :=
  code_run G0_ok (orc := ⟨[true, false, true], []⟩) (obl := [decide ((↑i : Int) < (↑n : Int)) = true,
      (0 : Int) ≤ (↑i : Int),
      (↑i : Int) < (↑n : Int),
      Int.toNat (↑i : Int) < n,
      decide (S (Int.toNat (↑i : Int)) < (1 : Int)) = false,
      decide (S (Int.toNat (↑i : Int)) > (4294967296 : Int)) = true,
      (6 : Int) = (6 : Int),
      n = n,
      ∀ (i : Nat), i < n → O i = O i ∧ S i = S i ∧ True]) (by kernel_rfl) (.cons (by exact decide_eq_true (by omega)) (.cons (by omega) (.cons (by omega) (.cons (by assumption) (.cons (by exact decide_eq_false h1) (.cons (by exact decide_eq_true h2) (.cons (by rfl) (.cons (by rfl) (.cons (by (simp; done)) .nil))))))))) (Nat.le_of_ble_eq_true (by kernel_rfl))

set_option maxHeartbeats 2000000 in
theorem ck_e (n : Nat) (O S : Nat → Int) (hn : n ≤ 64) : CodeOk Try.prog 1 (loopOf Try.f8 0) (mkSt 28 [(13, .nv (.one (.own 0))), (14, iA n), (15, iA n)] [.ro 2 n (gSl O S)]) (.exit 0) (mkSt 28 [] [.ro 2 n (gSl O S)]) :=
  code_run G0_ok (orc := ⟨[false], []⟩) (obl := [decide ((↑n : Int) < (↑n : Int)) = false,
      n = n,
      ∀ (i : Nat), i < n → O i = O i ∧ S i = S i ∧ True]) (by kernel_rfl) (.cons (by exact decide_eq_false (by omega)) (.cons (by rfl) (.cons (by (simp; done)) .nil))) (Nat.le_of_ble_eq_true (by kernel_rfl))

set_option maxHeartbeats 2000000 in
theorem ck_lo (O S : Nat → Int) : FnOk Try.prog 8 ([.nv (.one (.own 0))]) ([.ro 2 0 (gSl O S)]) (iA 6) ([.gone]) :=
  fn_run G0_ok Try.func8 (orc := ⟨[true, true], []⟩) (obl := [decide ((↑(0 : Nat) : Int) < (1 : Int)) = true,
      true = true,
      (6 : Int) = (6 : Int)]) (by kernel_rfl) (.cons (by rfl) (.cons (by rfl) (.cons (by rfl) .nil))) (Nat.le_of_ble_eq_true (by kernel_rfl))

set_option maxHeartbeats 2000000 in
theorem ck_hi (n : Nat) (O S : Nat → Int) (hn : 64 < n) : FnOk Try.prog 8 ([.nv (.one (.own 0))]) ([.ro 2 n (gSl O S)]) (iA 6) ([.gone]) :=
  fn_run G0_ok Try.func8 (orc := ⟨[false, true], []⟩) (obl := [decide ((↑n : Int) < (1 : Int)) = false,
      decide ((↑n : Int) > (64 : Int)) = true,
      (6 : Int) = (6 : Int)]) (by kernel_rfl) (.cons (by exact decide_eq_false (by omega)) (.cons (by exact decide_eq_true (by omega)) (.cons (by rfl) .nil))) (Nat.le_of_ble_eq_true (by kernel_rfl))

set_option maxHeartbeats 2000000 in
theorem ck_f (n : Nat) (O S : Nat → Int) (h1n : 1 ≤ n) (hn : n ≤ 64) (l : CodeOk Try.prog 1 (.loop (loopOf Try.f8 0)) (mkSt 28 [(13, .nv (.one (.own 0))), (14, iA n), (15, iA 0)] [.ro 2 n (gSl O S)]) (.exit 0) (mkSt 28 [] [.ro 2 n (gSl O S)])) : FnOk Try.prog 8 ([.nv (.one (.own 0))]) ([.ro 2 n (gSl O S)]) (iA 0) ([.gone]) :=
  fn_run G0_ok Try.func8 (orc := ⟨[false, false], [⟨mkSt 28 [(13, .nv (.one (.own 0))), (14, iA n), (15, iA 0)] [.ro 2 n (gSl O S)], .exit 0, mkSt 28 [] [.ro 2 n (gSl O S)]⟩]⟩) (obl := [decide ((↑n : Int) < (1 : Int)) = false,
      decide ((↑n : Int) > (64 : Int)) = false,
      (↑n : Int) = (↑n : Int),
      (0 : Int) = (0 : Int),
      n = n,
      ∀ (i : Nat), i < n → O i = O i ∧ S i = S i ∧ True,
      (1 : Nat) ≤ (1 : Nat),
      CodeOk Try.prog (1 : Nat) (Code.loop (loopOf Try.f8 (0 : Nat))) (mkSt (28 : Nat) [((13 : Nat), SV.nv (NV.one (At.own (0 : Nat)))), ((14 : Nat), iA (↑n : Int)), ((15 : Nat), iA (0 : Int))] [Seg.ro (2 : Nat) n (gSl O S)]) (Ex.exit (0 : Nat)) (mkSt (28 : Nat) [] [Seg.ro (2 : Nat) n (gSl O S)]),
      (0 : Int) = (0 : Int)]) (by kernel_rfl) (.cons (by exact decide_eq_false (by omega)) (.cons (by exact decide_eq_false (by omega)) (.cons (by rfl) (.cons (by rfl) (.cons (by rfl) (.cons (by (simp; done)) (.cons (by trivial) (.cons (by assumption) (.cons (by rfl) .nil))))))))) (Nat.le_of_ble_eq_true (by kernel_rfl))

set_option maxHeartbeats 2000000 in
theorem ck_g (n : Nat) (O S : Nat → Int) (h1n : 1 ≤ n) (hn : n ≤ 64) (l : CodeOk Try.prog 1 (.loop (loopOf Try.f8 0)) (mkSt 28 [(13, .nv (.one (.own 0))), (14, iA n), (15, iA 0)] [.ro 2 n (gSl O S)]) .ret (mkSt 28 [(2, iA 6)] [.ro 2 n (gSl O S)])) : FnOk Try.prog 8 ([.nv (.one (.own 0))]) ([.ro 2 n (gSl O S)]) (iA 6) ([.gone]) :=
  fn_run G0_ok Try.func8 (orc := ⟨[false, false], [⟨mkSt 28 [(13, .nv (.one (.own 0))), (14, iA n), (15, iA 0)] [.ro 2 n (gSl O S)], .ret, mkSt 28 [(2, iA 6)] [.ro 2 n (gSl O S)]⟩]⟩) (obl := [decide ((↑n : Int) < (1 : Int)) = false,
      decide ((↑n : Int) > (64 : Int)) = false,
      (↑n : Int) = (↑n : Int),
      (0 : Int) = (0 : Int),
      n = n,
      ∀ (i : Nat), i < n → O i = O i ∧ S i = S i ∧ True,
      (1 : Nat) ≤ (1 : Nat),
      CodeOk Try.prog (1 : Nat) (Code.loop (loopOf Try.f8 (0 : Nat))) (mkSt (28 : Nat) [((13 : Nat), SV.nv (NV.one (At.own (0 : Nat)))), ((14 : Nat), iA (↑n : Int)), ((15 : Nat), iA (0 : Int))] [Seg.ro (2 : Nat) n (gSl O S)]) Ex.ret (mkSt (28 : Nat) [((2 : Nat), iA (6 : Int))] [Seg.ro (2 : Nat) n (gSl O S)]),
      (6 : Int) = (6 : Int)]) (by kernel_rfl) (.cons (by exact decide_eq_false (by omega)) (.cons (by exact decide_eq_false (by omega)) (.cons (by rfl) (.cons (by rfl) (.cons (by rfl) (.cons (by (simp; done)) (.cons (by trivial) (.cons (by assumption) (.cons (by rfl) .nil))))))))) (Nat.le_of_ble_eq_true (by kernel_rfl))

set_option maxHeartbeats 2000000 in
theorem al_r (n i : Nat) (c : Int) (O S : Nat → Int) (hi : i < n) (hn : n ≤ 9223372036854775807) (hc : 0 ≤ c) (hz : (bits .and .u8 ((O i).fdiv (2 ^ min c.toNat 8)) 1 == 0) = false) : CodeOk Try.prog 1 (loopOf Try.f21 0) (mkSt 20 [(1, iA c), (7, .nv (.one (.own 0))), (8, iA n), (9, iA i)] [.ro 2 n (gSl O S)]) .normal (mkSt 20 [(1, iA c), (7, .nv (.one (.own 0))), (8, iA n), (9, iA (i + 1 : Nat))] [.ro 2 n (gSl O S)]) :=
  code_run G0_ok (orc := ⟨[true, false], []⟩) (obl := [decide ((↑i : Int) < (↑n : Int)) = true,
      (0 : Int) ≤ (↑i : Int),
      (↑i : Int) < (↑n : Int),
      Int.toNat (↑i : Int) < n,
      (0 : Int) ≤ c,
      (bits BinOp.and IntKind.u8 (Int.fdiv (O (Int.toNat (↑i : Int))) ((2 : Int) ^ min (Int.toNat c) (IntKind.bits IntKind.u8))) (1 : Int) == (0 : Int)) = false,
      c = c,
      (↑n : Int) = (↑n : Int),
      IntKind.wrap IntKind.i64 ((↑i : Int) + (1 : Int)) = (↑(i + (1 : Nat)) : Int),
      n = n,
      ∀ (i : Nat), i < n → O i = O i ∧ S i = S i ∧ True]) (by kernel_rfl) (.cons (by exact decide_eq_true (by omega)) (.cons (by omega) (.cons (by omega) (.cons (by assumption) (.cons (by assumption) (.cons (by assumption) (.cons (by rfl) (.cons (by rfl) (.cons (by exact w64 (by omega) (by omega)) (.cons (by rfl) (.cons (by (simp; done)) .nil))))))))))) (Nat.le_of_ble_eq_true (by kernel_rfl))

set_option maxHeartbeats 2000000 in
theorem al_b (n i : Nat) (c : Int) (O S : Nat → Int) (hi : i < n) (hn : n ≤ 9223372036854775807) (hc : 0 ≤ c) (hz : (bits .and .u8 ((O i).fdiv (2 ^ min c.toNat 8)) 1 == 0) = true) : CodeOk Try.prog 1 (loopOf Try.f21 0) (mkSt 20 [(1, iA c), (7, .nv (.one (.own 0))), (8, iA n), (9, iA i)] [.ro 2 n (gSl O S)]) .ret (mkSt 20 [(4, bA false)] [.ro 2 n (gSl O S)]) :=
  code_run G0_ok (orc := ⟨[true, true], []⟩) (obl := [decide ((↑i : Int) < (↑n : Int)) = true,
      (0 : Int) ≤ (↑i : Int),
      (↑i : Int) < (↑n : Int),
      Int.toNat (↑i : Int) < n,
      (0 : Int) ≤ c,
      (bits BinOp.and IntKind.u8 (Int.fdiv (O (Int.toNat (↑i : Int))) ((2 : Int) ^ min (Int.toNat c) (IntKind.bits IntKind.u8))) (1 : Int) == (0 : Int)) = true,
      false = false,
      n = n,
      ∀ (i : Nat), i < n → O i = O i ∧ S i = S i ∧ True]) (by kernel_rfl) (.cons (by exact decide_eq_true (by omega)) (.cons (by omega) (.cons (by omega) (.cons (by assumption) (.cons (by assumption) (.cons (by assumption) (.cons (by rfl) (.cons (by rfl) (.cons (by (simp; done)) .nil))))))))) (Nat.le_of_ble_eq_true (by kernel_rfl))

set_option maxHeartbeats 2000000 in
theorem al_e (n : Nat) (c : Int) (O S : Nat → Int) (hn : n ≤ 9223372036854775807) (hc : 0 ≤ c) : CodeOk Try.prog 1 (loopOf Try.f21 0) (mkSt 20 [(1, iA c), (7, .nv (.one (.own 0))), (8, iA n), (9, iA n)] [.ro 2 n (gSl O S)]) (.exit 0) (mkSt 20 [] [.ro 2 n (gSl O S)]) :=
  code_run G0_ok (orc := ⟨[false], []⟩) (obl := [decide ((↑n : Int) < (↑n : Int)) = false,
      n = n,
      ∀ (i : Nat), i < n → O i = O i ∧ S i = S i ∧ True]) (by kernel_rfl) (.cons (by exact decide_eq_false (by omega)) (.cons (by rfl) (.cons (by (simp; done)) .nil))) (Nat.le_of_ble_eq_true (by kernel_rfl))

set_option maxHeartbeats 2000000 in
theorem al_f (n : Nat) (c : Int) (O S : Nat → Int) (hn : n ≤ 9223372036854775807) (l : CodeOk Try.prog 1 (.loop (loopOf Try.f21 0)) (mkSt 20 [(1, iA c), (7, .nv (.one (.own 0))), (8, iA n), (9, iA 0)] [.ro 2 n (gSl O S)]) (.exit 0) (mkSt 20 [] [.ro 2 n (gSl O S)])) : FnOk Try.prog 21 ([.nv (.one (.own 0)), iA c]) ([.ro 2 n (gSl O S)]) (bA true) ([.gone]) :=
  fn_run G0_ok Try.func21 (orc := ⟨[], [⟨mkSt 20 [(1, iA c), (7, .nv (.one (.own 0))), (8, iA n), (9, iA 0)] [.ro 2 n (gSl O S)], .exit 0, mkSt 20 [] [.ro 2 n (gSl O S)]⟩]⟩) (obl := [c = c,
      (↑n : Int) = (↑n : Int),
      (0 : Int) = (0 : Int),
      n = n,
      ∀ (i : Nat), i < n → O i = O i ∧ S i = S i ∧ True,
      (1 : Nat) ≤ (1 : Nat),
      CodeOk Try.prog (1 : Nat) (Code.loop (loopOf Try.f21 (0 : Nat))) (mkSt (20 : Nat) [((1 : Nat), iA c), ((7 : Nat), SV.nv (NV.one (At.own (0 : Nat)))), ((8 : Nat), iA (↑n : Int)), ((9 : Nat), iA (0 : Int))] [Seg.ro (2 : Nat) n (gSl O S)]) (Ex.exit (0 : Nat)) (mkSt (20 : Nat) [] [Seg.ro (2 : Nat) n (gSl O S)]),
      true = true]) (by kernel_rfl) (.cons (by rfl) (.cons (by rfl) (.cons (by rfl) (.cons (by rfl) (.cons (by (simp; done)) (.cons (by trivial) (.cons (by assumption) (.cons (by rfl) .nil)))))))) (Nat.le_of_ble_eq_true (by kernel_rfl))

set_option maxHeartbeats 2000000 in
theorem al_g (n : Nat) (c : Int) (O S : Nat → Int) (hn : n ≤ 9223372036854775807) (l : CodeOk Try.prog 1 (.loop (loopOf Try.f21 0)) (mkSt 20 [(1, iA c), (7, .nv (.one (.own 0))), (8, iA n), (9, iA 0)] [.ro 2 n (gSl O S)]) .ret (mkSt 20 [(4, bA false)] [.ro 2 n (gSl O S)])) : FnOk Try.prog 21 ([.nv (.one (.own 0)), iA c]) ([.ro 2 n (gSl O S)]) (bA false) ([.gone]) :=
  fn_run G0_ok Try.func21 (orc := ⟨[], [⟨mkSt 20 [(1, iA c), (7, .nv (.one (.own 0))), (8, iA n), (9, iA 0)] [.ro 2 n (gSl O S)], .ret, mkSt 20 [(4, bA false)] [.ro 2 n (gSl O S)]⟩]⟩) (obl := [c = c,
      (↑n : Int) = (↑n : Int),
      (0 : Int) = (0 : Int),
      n = n,
      ∀ (i : Nat), i < n → O i = O i ∧ S i = S i ∧ True,
      (1 : Nat) ≤ (1 : Nat),
      CodeOk Try.prog (1 : Nat) (Code.loop (loopOf Try.f21 (0 : Nat))) (mkSt (20 : Nat) [((1 : Nat), iA c), ((7 : Nat), SV.nv (NV.one (At.own (0 : Nat)))), ((8 : Nat), iA (↑n : Int)), ((9 : Nat), iA (0 : Int))] [Seg.ro (2 : Nat) n (gSl O S)]) Ex.ret (mkSt (20 : Nat) [((4 : Nat), bA false)] [Seg.ro (2 : Nat) n (gSl O S)]),
      false = false]) (by kernel_rfl) (.cons (by rfl) (.cons (by rfl) (.cons (by rfl) (.cons (by rfl) (.cons (by (simp; done)) (.cons (by trivial) (.cons (by assumption) (.cons (by rfl) .nil)))))))) (Nat.le_of_ble_eq_true (by kernel_rfl))

set_option maxHeartbeats 2000000 in
theorem my_r (n i : Nat) (O S : Nat → Int) (hi : i < n) (hn : n ≤ 9223372036854775807) (h1 : 1 ≤ S i) (h2 : S i ≤ 4294967296) : CodeOk Try.prog 1 (loopOf Try.f7 0) (mkSt 32 [(0, .nv (.one (.own 0))), (3, iA i)] [.ro 2 n (gSl O S)]) .normal (mkSt 32 [(0, .nv (.one (.own 0))), (3, iA (i + 1 : Nat))] [.ro 2 n (gSl O S)]) :=
  code_run G0_ok (orc := ⟨[true, false, false], []⟩) (obl := [decide ((↑i : Int) < (↑n : Int)) = true,
      (0 : Int) ≤ (↑i : Int),
      (↑i : Int) < (↑n : Int),
      Int.toNat (↑i : Int) < n,
      decide (S (Int.toNat (↑i : Int)) < (1 : Int)) = false,
      (0 : Int) ≤ (↑i : Int),
      (↑i : Int) < (↑n : Int),
      Int.toNat (↑i : Int) < n,
      decide (S (Int.toNat (↑i : Int)) > (4294967296 : Int)) = false,
      IntKind.wrap IntKind.i64 ((↑i : Int) + (1 : Int)) = (↑(i + (1 : Nat)) : Int),
      n = n,
      ∀ (i : Nat), i < n → O i = O i ∧ S i = S i ∧ True]) (by kernel_rfl) (.cons (by exact decide_eq_true (by omega)) (.cons (by omega) (.cons (by omega) (.cons (by assumption) (.cons (by exact decide_eq_false (Int.not_lt.2 h1)) (.cons (by omega) (.cons (by omega) (.cons (by assumption) (.cons (by exact decide_eq_false (Int.not_lt.2 h2)) (.cons (by exact w64 (by omega) (by omega)) (.cons (by rfl) (.cons (by (simp; done)) .nil)))))))))))) (Nat.le_of_ble_eq_true (by kernel_rfl))

set_option maxHeartbeats 2000000 in
theorem my_b1 (n i : Nat) (O S : Nat → Int) (hi : i < n) (hn : n ≤ 9223372036854775807) (h1 : S i < 1) : CodeOk Try.prog 1 (loopOf Try.f7 0) (mkSt 32 [(0, .nv (.one (.own 0))), (3, iA i)] [.ro 2 n (gSl O S)]) .ret (mkSt 32 [(2, bA false)] [.ro 2 n (gSl O S)]) :=
  code_run G0_ok (orc := ⟨[true, true, true], []⟩) (obl := [decide ((↑i : Int) < (↑n : Int)) = true,
      (0 : Int) ≤ (↑i : Int),
      (↑i : Int) < (↑n : Int),
      Int.toNat (↑i : Int) < n,
      decide (S (Int.toNat (↑i : Int)) < (1 : Int)) = true,
      true = true,
      false = false,
      n = n,
      ∀ (i : Nat), i < n → O i = O i ∧ S i = S i ∧ True]) (by kernel_rfl) (.cons (by exact decide_eq_true (by omega)) (.cons (by omega) (.cons (by omega) (.cons (by assumption) (.cons (by exact decide_eq_true h1) (.cons (by rfl) (.cons (by rfl) (.cons (by rfl) (.cons (by (simp; done)) .nil))))))))) (Nat.le_of_ble_eq_true (by kernel_rfl))

set_option maxHeartbeats 2000000 in
theorem my_b2 (n i : Nat) (O S : Nat → Int) (hi : i < n) (hn : n ≤ 9223372036854775807) (h1 : ¬ S i < 1) (h2 : 4294967296 < S i) : CodeOk Try.prog 1 (loopOf Try.f7 0) (mkSt 32 [(0, .nv (.one (.own 0))), (3, iA i)] [.ro 2 n (gSl O S)]) .ret (mkSt 32 [(2, bA false)] [.ro 2 n (gSl O S)]) :=
  code_run G0_ok (orc := ⟨[true, false, true], []⟩) (obl := [decide ((↑i : Int) < (↑n : Int)) = true,
      (0 : Int) ≤ (↑i : Int),
      (↑i : Int) < (↑n : Int),
      Int.toNat (↑i : Int) < n,
      decide (S (Int.toNat (↑i : Int)) < (1 : Int)) = false,
      (0 : Int) ≤ (↑i : Int),
      (↑i : Int) < (↑n : Int),
      Int.toNat (↑i : Int) < n,
      decide (S (Int.toNat (↑i : Int)) > (4294967296 : Int)) = true,
      false = false,
      n = n,
      ∀ (i : Nat), i < n → O i = O i ∧ S i = S i ∧ True]) (by kernel_rfl) (.cons (by exact decide_eq_true (by omega)) (.cons (by omega) (.cons (by omega) (.cons (by assumption) (.cons (by exact decide_eq_false h1) (.cons (by omega) (.cons (by omega) (.cons (by assumption) (.cons (by exact decide_eq_true h2) (.cons (by rfl) (.cons (by rfl) (.cons (by (simp; done)) .nil)))))))))))) (Nat.le_of_ble_eq_true (by kernel_rfl))

set_option maxHeartbeats 2000000 in
theorem my_e (n : Nat) (O S : Nat → Int) (hn : n ≤ 9223372036854775807) : CodeOk Try.prog 1 (loopOf Try.f7 0) (mkSt 32 [(0, .nv (.one (.own 0))), (3, iA n)] [.ro 2 n (gSl O S)]) (.exit 0) (mkSt 32 [(0, .nv (.one (.own 0)))] [.ro 2 n (gSl O S)]) :=
  code_run G0_ok (orc := ⟨[false], []⟩) (obl := [decide ((↑n : Int) < (↑n : Int)) = false,
      n = n,
      ∀ (i : Nat), i < n → O i = O i ∧ S i = S i ∧ True]) (by kernel_rfl) (.cons (by exact decide_eq_false (by omega)) (.cons (by rfl) (.cons (by (simp; done)) .nil))) (Nat.le_of_ble_eq_true (by kernel_rfl))

set_option maxHeartbeats 2000000 in
theorem my_lo (n : Nat) (O S : Nat → Int) (hn : n < 1) (l : CodeOk Try.prog 1 (.loop (loopOf Try.f7 0)) (mkSt 32 [(0, .nv (.one (.own 0))), (3, iA 0)] [.ro 2 n (gSl O S)]) (.exit 0) (mkSt 32 [(0, .nv (.one (.own 0)))] [.ro 2 n (gSl O S)])) : FnOk Try.prog 7 ([.nv (.one (.own 0))]) ([.ro 2 n (gSl O S)]) (bA false) ([.gone]) :=
  fn_run G0_ok Try.func7 (orc := ⟨[false], [⟨mkSt 32 [(0, .nv (.one (.own 0))), (3, iA 0)] [.ro 2 n (gSl O S)], .exit 0, mkSt 32 [(0, .nv (.one (.own 0)))] [.ro 2 n (gSl O S)]⟩]⟩) (obl := [(0 : Int) = (0 : Int),
      n = n,
      ∀ (i : Nat), i < n → O i = O i ∧ S i = S i ∧ True,
      (1 : Nat) ≤ (1 : Nat),
      CodeOk Try.prog (1 : Nat) (Code.loop (loopOf Try.f7 (0 : Nat))) (mkSt (32 : Nat) [((0 : Nat), SV.nv (NV.one (At.own (0 : Nat)))), ((3 : Nat), iA (0 : Int))] [Seg.ro (2 : Nat) n (gSl O S)]) (Ex.exit (0 : Nat)) (mkSt (32 : Nat) [((0 : Nat), SV.nv (NV.one (At.own (0 : Nat))))] [Seg.ro (2 : Nat) n (gSl O S)]),
      decide ((↑n : Int) ≥ (1 : Int)) = false,
      false = false]) (by kernel_rfl) (.cons (by rfl) (.cons (by rfl) (.cons (by omega) (.cons (by trivial) (.cons (by assumption) (.cons (by exact decide_eq_false (by omega)) (.cons (by rfl) .nil))))))) (Nat.le_of_ble_eq_true (by kernel_rfl))

set_option maxHeartbeats 2000000 in
theorem my_hi (n : Nat) (O S : Nat → Int) (hn1 : 1 ≤ n) (hn : 64 < n) (l : CodeOk Try.prog 1 (.loop (loopOf Try.f7 0)) (mkSt 32 [(0, .nv (.one (.own 0))), (3, iA 0)] [.ro 2 n (gSl O S)]) (.exit 0) (mkSt 32 [(0, .nv (.one (.own 0)))] [.ro 2 n (gSl O S)])) : FnOk Try.prog 7 ([.nv (.one (.own 0))]) ([.ro 2 n (gSl O S)]) (bA false) ([.gone]) :=
  fn_run G0_ok Try.func7 (orc := ⟨[true], [⟨mkSt 32 [(0, .nv (.one (.own 0))), (3, iA 0)] [.ro 2 n (gSl O S)], .exit 0, mkSt 32 [(0, .nv (.one (.own 0)))] [.ro 2 n (gSl O S)]⟩]⟩) (obl := [(0 : Int) = (0 : Int),
      n = n,
      ∀ (i : Nat), i < n → O i = O i ∧ S i = S i ∧ True,
      (1 : Nat) ≤ (1 : Nat),
      CodeOk Try.prog (1 : Nat) (Code.loop (loopOf Try.f7 (0 : Nat))) (mkSt (32 : Nat) [((0 : Nat), SV.nv (NV.one (At.own (0 : Nat)))), ((3 : Nat), iA (0 : Int))] [Seg.ro (2 : Nat) n (gSl O S)]) (Ex.exit (0 : Nat)) (mkSt (32 : Nat) [((0 : Nat), SV.nv (NV.one (At.own (0 : Nat))))] [Seg.ro (2 : Nat) n (gSl O S)]),
      decide ((↑n : Int) ≥ (1 : Int)) = true,
      decide ((↑n : Int) ≤ (64 : Int)) = false]) (by kernel_rfl) (.cons (by rfl) (.cons (by rfl) (.cons (by (simp; done)) (.cons (by trivial) (.cons (by assumption) (.cons (by exact decide_eq_true (by omega)) (.cons (by exact decide_eq_false (by omega)) .nil))))))) (Nat.le_of_ble_eq_true (by kernel_rfl))

set_option maxHeartbeats 2000000 in
theorem my_f (n : Nat) (O S : Nat → Int) (h1n : 1 ≤ n) (hn : n ≤ 64) (l : CodeOk Try.prog 1 (.loop (loopOf Try.f7 0)) (mkSt 32 [(0, .nv (.one (.own 0))), (3, iA 0)] [.ro 2 n (gSl O S)]) (.exit 0) (mkSt 32 [(0, .nv (.one (.own 0)))] [.ro 2 n (gSl O S)])) : FnOk Try.prog 7 ([.nv (.one (.own 0))]) ([.ro 2 n (gSl O S)]) (bA true) ([.gone]) :=
  fn_run G0_ok Try.func7 (orc := ⟨[true], [⟨mkSt 32 [(0, .nv (.one (.own 0))), (3, iA 0)] [.ro 2 n (gSl O S)], .exit 0, mkSt 32 [(0, .nv (.one (.own 0)))] [.ro 2 n (gSl O S)]⟩]⟩) (obl := [(0 : Int) = (0 : Int),
      n = n,
      ∀ (i : Nat), i < n → O i = O i ∧ S i = S i ∧ True,
      (1 : Nat) ≤ (1 : Nat),
      CodeOk Try.prog (1 : Nat) (Code.loop (loopOf Try.f7 (0 : Nat))) (mkSt (32 : Nat) [((0 : Nat), SV.nv (NV.one (At.own (0 : Nat)))), ((3 : Nat), iA (0 : Int))] [Seg.ro (2 : Nat) n (gSl O S)]) (Ex.exit (0 : Nat)) (mkSt (32 : Nat) [((0 : Nat), SV.nv (NV.one (At.own (0 : Nat))))] [Seg.ro (2 : Nat) n (gSl O S)]),
      decide ((↑n : Int) ≥ (1 : Int)) = true,
      decide ((↑n : Int) ≤ (64 : Int)) = true]) (by kernel_rfl) (.cons (by rfl) (.cons (by rfl) (.cons (by (simp; done)) (.cons (by trivial) (.cons (by assumption) (.cons (by exact decide_eq_true (by omega)) (.cons (by exact decide_eq_true (by omega)) .nil))))))) (Nat.le_of_ble_eq_true (by kernel_rfl))

set_option maxHeartbeats 2000000 in
theorem my_g (n : Nat) (O S : Nat → Int) (hn : n ≤ 9223372036854775807) (l : CodeOk Try.prog 1 (.loop (loopOf Try.f7 0)) (mkSt 32 [(0, .nv (.one (.own 0))), (3, iA 0)] [.ro 2 n (gSl O S)]) .ret (mkSt 32 [(2, bA false)] [.ro 2 n (gSl O S)])) : FnOk Try.prog 7 ([.nv (.one (.own 0))]) ([.ro 2 n (gSl O S)]) (bA false) ([.gone]) :=
  fn_run G0_ok Try.func7 (orc := ⟨[], [⟨mkSt 32 [(0, .nv (.one (.own 0))), (3, iA 0)] [.ro 2 n (gSl O S)], .ret, mkSt 32 [(2, bA false)] [.ro 2 n (gSl O S)]⟩]⟩) (obl := [(0 : Int) = (0 : Int),
      n = n,
      ∀ (i : Nat), i < n → O i = O i ∧ S i = S i ∧ True,
      (1 : Nat) ≤ (1 : Nat),
      CodeOk Try.prog (1 : Nat) (Code.loop (loopOf Try.f7 (0 : Nat))) (mkSt (32 : Nat) [((0 : Nat), SV.nv (NV.one (At.own (0 : Nat)))), ((3 : Nat), iA (0 : Int))] [Seg.ro (2 : Nat) n (gSl O S)]) Ex.ret (mkSt (32 : Nat) [((2 : Nat), bA false)] [Seg.ro (2 : Nat) n (gSl O S)]),
      false = false]) (by kernel_rfl) (.cons (by rfl) (.cons (by rfl) (.cons (by (simp; done)) (.cons (by trivial) (.cons (by assumption) (.cons (by rfl) .nil)))))) (Nat.le_of_ble_eq_true (by kernel_rfl))
end Go.Proofs.Ytoincoicgfnbiaa
