/- Runs of Go code, as printed by a program: no condition beyond those that each states. -/
import Derived.Test.YtoincoicgfnbiaaGaC
import Derived.Test.YtoincoicgfnbiaaChecked
import Derived.KernelRfl
namespace Go.Proofs.Ytoincoicgfnbiaa
set_option linter.unusedVariables false
set_option linter.unusedSimpArgs false
set_option maxRecDepth 100000
open Go.RowKit E
attribute [local irreducible] allS okN chk pre sl slt opB opZ alwB
set_option maxHeartbeats 2000000 in
theorem gm_n (n : Nat) (O S : Nat → Int) (c : Int) (hk : chk n S = 6) : FnOk Try.prog 20 ([.nv (.one (.own 0)), iA c]) ([.ro 2 n (gSl O S)]) (bA false) ([.gone]) :=
  fn_run Gg1_ok Try.func20 (orc := ⟨[false, false], []⟩) (obl := [n = n,
      ∀ (i : Nat), i < n → O i = oOf (gSl O S) i ∧ S i = sOf (gSl O S) i ∧ True,
      (chk n (sOf (gSl O S)) == (0 : Int)) = false,
      false = false,
      false = false]) (by kernel_rfl) (.cons (by rfl) (.cons (by exact fun i _ => ⟨rfl, rfl, trivial⟩) (.cons (by (show (chk n S == 0) = false; rw [hk]; rfl)) (.cons (by rfl) (.cons (by rfl) .nil))))) (Nat.le_of_ble_eq_true (by kernel_rfl))

set_option maxHeartbeats 2000000 in
theorem gm_lo (n : Nat) (O S : Nat → Int) (c : Int) (hk : chk n S = 0) (h0 : ¬ c ≥ 0) : FnOk Try.prog 20 ([.nv (.one (.own 0)), iA c]) ([.ro 2 n (gSl O S)]) (bA false) ([.gone]) :=
  fn_run Gg1_ok Try.func20 (orc := ⟨[true, false], []⟩) (obl := [n = n,
      ∀ (i : Nat), i < n → O i = oOf (gSl O S) i ∧ S i = sOf (gSl O S) i ∧ True,
      (chk n (sOf (gSl O S)) == (0 : Int)) = true,
      decide (c ≥ (0 : Int)) = false,
      false = false]) (by kernel_rfl) (.cons (by rfl) (.cons (by exact fun i _ => ⟨rfl, rfl, trivial⟩) (.cons (by (show (chk n S == 0) = true; rw [hk]; rfl)) (.cons (by exact decide_eq_false h0) (.cons (by rfl) .nil))))) (Nat.le_of_ble_eq_true (by kernel_rfl))

set_option maxHeartbeats 2000000 in
theorem gm_hi (n : Nat) (O S : Nat → Int) (c : Int) (hk : chk n S = 0) (h0 : c ≥ 0) (h7 : ¬ c < 8) : FnOk Try.prog 20 ([.nv (.one (.own 0)), iA c]) ([.ro 2 n (gSl O S)]) (bA false) ([.gone]) :=
  fn_run Gg1_ok Try.func20 (orc := ⟨[true, true], []⟩) (obl := [n = n,
      ∀ (i : Nat), i < n → O i = oOf (gSl O S) i ∧ S i = sOf (gSl O S) i ∧ True,
      (chk n (sOf (gSl O S)) == (0 : Int)) = true,
      decide (c ≥ (0 : Int)) = true,
      decide (c < (8 : Int)) = false]) (by kernel_rfl) (.cons (by rfl) (.cons (by exact fun i _ => ⟨rfl, rfl, trivial⟩) (.cons (by (show (chk n S == 0) = true; rw [hk]; rfl)) (.cons (by exact decide_eq_true h0) (.cons (by exact decide_eq_false h7) .nil))))) (Nat.le_of_ble_eq_true (by kernel_rfl))

set_option maxHeartbeats 2000000 in
theorem gm_y (n : Nat) (O S : Nat → Int) (c : Int) (hk : chk n S = 0) (h0 : c ≥ 0) (h7 : c < 8) : FnOk Try.prog 20 ([.nv (.one (.own 0)), iA c]) ([.ro 2 n (gSl O S)]) (bA true) ([.gone]) :=
  fn_run Gg1_ok Try.func20 (orc := ⟨[true, true], []⟩) (obl := [n = n,
      ∀ (i : Nat), i < n → O i = oOf (gSl O S) i ∧ S i = sOf (gSl O S) i ∧ True,
      (chk n (sOf (gSl O S)) == (0 : Int)) = true,
      decide (c ≥ (0 : Int)) = true,
      decide (c < (8 : Int)) = true]) (by kernel_rfl) (.cons (by rfl) (.cons (by exact fun i _ => ⟨rfl, rfl, trivial⟩) (.cons (by (show (chk n S == 0) = true; rw [hk]; rfl)) (.cons (by exact decide_eq_true h0) (.cons (by exact decide_eq_true h7) .nil))))) (Nat.le_of_ble_eq_true (by kernel_rfl))

set_option maxHeartbeats 2000000 in
theorem rd_n (n : Nat) (O S : Nat → Int) (hk : chk n S = 6) : FnOk Try.prog 12 ([.nv (.one (.own 0))]) ([.ro 2 n (gSl O S)]) (.nv (.one (.val (.int .u64 (0))))) ([.gone]) :=
  fn_run Gg1_ok Try.func12 (orc := ⟨[true], []⟩) (obl := [n = n,
      ∀ (i : Nat), i < n → O i = oOf (gSl O S) i ∧ S i = sOf (gSl O S) i ∧ True,
      (chk n (sOf (gSl O S)) != (0 : Int)) = true,
      (0 : Int) = (0 : Int)]) (by kernel_rfl) (.cons (by rfl) (.cons (by exact fun i _ => ⟨rfl, rfl, trivial⟩) (.cons (by (show (chk n S != 0) = true; rw [hk]; rfl)) (.cons (by rfl) .nil)))) (Nat.le_of_ble_eq_true (by kernel_rfl))

set_option maxHeartbeats 2000000 in
theorem rd_f (n : Nat) (O S : Nat → Int) (hk : chk n S = 0) (hn : n ≤ 64) (l : CodeOk Try.prog 1 (.loop (loopOf Try.f12 0)) (mkSt 21 [(3, .nv (.one (.val (.int .u64 (pre S 0))))), (9, .nv (.one (.own 0))), (10, iA n), (11, iA 0)] [.ro 2 n (gSl O S)]) (.exit 0) (mkSt 21 [(3, .nv (.one (.val (.int .u64 (pre S n)))))] [.ro 2 n (gSl O S)])) : FnOk Try.prog 12 ([.nv (.one (.own 0))]) ([.ro 2 n (gSl O S)]) (.nv (.one (.val (.int .u64 (pre S n))))) ([.gone]) :=
  fn_run Gg1_ok Try.func12 (orc := ⟨[false], [⟨mkSt 21 [(3, .nv (.one (.val (.int .u64 (pre S 0))))), (9, .nv (.one (.own 0))), (10, iA n), (11, iA 0)] [.ro 2 n (gSl O S)], .exit 0, mkSt 21 [(3, .nv (.one (.val (.int .u64 (pre S n)))))] [.ro 2 n (gSl O S)]⟩]⟩) (obl := [n = n,
      ∀ (i : Nat), i < n → O i = oOf (gSl O S) i ∧ S i = sOf (gSl O S) i ∧ True,
      (chk n (sOf (gSl O S)) != (0 : Int)) = false,
      (0 : Int) = pre S (0 : Nat),
      (↑n : Int) = (↑n : Int),
      (0 : Int) = (0 : Int),
      n = n,
      ∀ (i : Nat), i < n → O i = O i ∧ S i = S i ∧ True,
      (1 : Nat) ≤ (1 : Nat),
      CodeOk Try.prog (1 : Nat) (Code.loop (loopOf Try.f12 (0 : Nat))) (mkSt (21 : Nat) [((3 : Nat), SV.nv (NV.one (At.val (Value.int IntKind.u64 (pre S (0 : Nat)))))), ((9 : Nat), SV.nv (NV.one (At.own (0 : Nat)))), ((10 : Nat), iA (↑n : Int)), ((11 : Nat), iA (0 : Int))] [Seg.ro (2 : Nat) n (gSl O S)]) (Ex.exit (0 : Nat)) (mkSt (21 : Nat) [((3 : Nat), SV.nv (NV.one (At.val (Value.int IntKind.u64 (pre S n)))))] [Seg.ro (2 : Nat) n (gSl O S)]),
      pre S n = pre S n]) (by kernel_rfl) (.cons (by rfl) (.cons (by exact fun i _ => ⟨rfl, rfl, trivial⟩) (.cons (by (show (chk n S != 0) = false; rw [hk]; rfl)) (.cons (by (show (0:Int) = pre S 0; unfold pre; rfl)) (.cons (by rfl) (.cons (by rfl) (.cons (by rfl) (.cons (by exact fun i _ => ⟨rfl, rfl, trivial⟩) (.cons (by trivial) (.cons (by assumption) (.cons (by rfl) .nil))))))))))) (Nat.le_of_ble_eq_true (by kernel_rfl))

set_option maxHeartbeats 2000000 in
theorem rd_r (n i : Nat) (O S : Nat → Int) (hi : i < n) (hn : n ≤ 64) (hp : pre S i + S i = pre S (i + 1)) (hb : 0 ≤ pre S (i + 1) ∧ pre S (i + 1) ≤ 18446744073709551615) : CodeOk Try.prog 1 (loopOf Try.f12 0) (mkSt 21 [(3, .nv (.one (.val (.int .u64 (pre S i))))), (9, .nv (.one (.own 0))), (10, iA n), (11, iA i)] [.ro 2 n (gSl O S)]) .normal (mkSt 21 [(3, .nv (.one (.val (.int .u64 (pre S (i + 1)))))), (9, .nv (.one (.own 0))), (10, iA n), (11, iA (i + 1 : Nat))] [.ro 2 n (gSl O S)]) :=
  code_run Gg1_ok (orc := ⟨[true], []⟩) (obl := [decide ((↑i : Int) < (↑n : Int)) = true,
      (0 : Int) ≤ (↑i : Int),
      (↑i : Int) < (↑n : Int),
      Int.toNat (↑i : Int) < n,
      IntKind.wrap IntKind.u64 (pre S i + S (Int.toNat (↑i : Int))) = pre S (i + (1 : Nat)),
      (↑n : Int) = (↑n : Int),
      IntKind.wrap IntKind.i64 ((↑i : Int) + (1 : Int)) = (↑(i + (1 : Nat)) : Int),
      n = n,
      ∀ (i : Nat), i < n → O i = O i ∧ S i = S i ∧ True]) (by kernel_rfl) (.cons (by exact decide_eq_true (by omega)) (.cons (by omega) (.cons (by omega) (.cons (by assumption) (.cons (by exact wU64 hp hb) (.cons (by rfl) (.cons (by exact w64 (by omega) (by omega)) (.cons (by rfl) (.cons (by exact fun i _ => ⟨rfl, rfl, trivial⟩) .nil))))))))) (Nat.le_of_ble_eq_true (by kernel_rfl))

set_option maxHeartbeats 2000000 in
theorem rd_e (n : Nat) (O S : Nat → Int) (hn : n ≤ 64) : CodeOk Try.prog 1 (loopOf Try.f12 0) (mkSt 21 [(3, .nv (.one (.val (.int .u64 (pre S n))))), (9, .nv (.one (.own 0))), (10, iA n), (11, iA n)] [.ro 2 n (gSl O S)]) (.exit 0) (mkSt 21 [(3, .nv (.one (.val (.int .u64 (pre S n)))))] [.ro 2 n (gSl O S)]) :=
  code_run Gg1_ok (orc := ⟨[false], []⟩) (obl := [decide ((↑n : Int) < (↑n : Int)) = false,
      pre S n = pre S n,
      n = n,
      ∀ (i : Nat), i < n → O i = O i ∧ S i = S i ∧ True]) (by kernel_rfl) (.cons (by exact decide_eq_false (by omega)) (.cons (by rfl) (.cons (by rfl) (.cons (by exact fun i _ => ⟨rfl, rfl, trivial⟩) .nil)))) (Nat.le_of_ble_eq_true (by kernel_rfl))

set_option maxHeartbeats 2000000 in
theorem rr_f (n : Nat) (O S : Nat → Int) (hn : n ≤ 64) (l : CodeOk Try.prog 1 (.loop (loopOf Try.f15 0)) (mkSt 19 [(0, .nv (.one (.own 0))), (3, .nv (.one (.val (.int .u64 (pre S 0))))), (4, iA 0)] [.ro 2 n (gSl O S)]) (.exit 0) (mkSt 19 [(3, .nv (.one (.val (.int .u64 (pre S n)))))] [.ro 2 n (gSl O S)])) : FnOk Try.prog 15 ([.nv (.one (.own 0))]) ([.ro 2 n (gSl O S)]) (.nv (.one (.val (.int .u64 (pre S n))))) ([.gone]) :=
  fn_run Gg1_ok Try.func15 (orc := ⟨[], [⟨mkSt 19 [(0, .nv (.one (.own 0))), (3, .nv (.one (.val (.int .u64 (pre S 0))))), (4, iA 0)] [.ro 2 n (gSl O S)], .exit 0, mkSt 19 [(3, .nv (.one (.val (.int .u64 (pre S n)))))] [.ro 2 n (gSl O S)]⟩]⟩) (obl := [(0 : Int) = pre S (0 : Nat),
      (0 : Int) = (0 : Int),
      n = n,
      ∀ (i : Nat), i < n → O i = O i ∧ S i = S i ∧ True,
      (1 : Nat) ≤ (1 : Nat),
      CodeOk Try.prog (1 : Nat) (Code.loop (loopOf Try.f15 (0 : Nat))) (mkSt (19 : Nat) [((0 : Nat), SV.nv (NV.one (At.own (0 : Nat)))), ((3 : Nat), SV.nv (NV.one (At.val (Value.int IntKind.u64 (pre S (0 : Nat)))))), ((4 : Nat), iA (0 : Int))] [Seg.ro (2 : Nat) n (gSl O S)]) (Ex.exit (0 : Nat)) (mkSt (19 : Nat) [((3 : Nat), SV.nv (NV.one (At.val (Value.int IntKind.u64 (pre S n)))))] [Seg.ro (2 : Nat) n (gSl O S)]),
      pre S n = pre S n]) (by kernel_rfl) (.cons (by (show (0:Int) = pre S 0; unfold pre; rfl)) (.cons (by rfl) (.cons (by rfl) (.cons (by (simp; done)) (.cons (by trivial) (.cons (by assumption) (.cons (by rfl) .nil))))))) (Nat.le_of_ble_eq_true (by kernel_rfl))

set_option maxHeartbeats 2000000 in
theorem rr_r (n i : Nat) (O S : Nat → Int) (hi : i < n) (hn : n ≤ 64) (hp : pre S i + S i = pre S (i + 1)) (hb : 0 ≤ pre S (i + 1) ∧ pre S (i + 1) ≤ 18446744073709551615) : CodeOk Try.prog 1 (loopOf Try.f15 0) (mkSt 19 [(0, .nv (.one (.own 0))), (3, .nv (.one (.val (.int .u64 (pre S i))))), (4, iA i)] [.ro 2 n (gSl O S)]) .normal (mkSt 19 [(0, .nv (.one (.own 0))), (3, .nv (.one (.val (.int .u64 (pre S (i + 1)))))), (4, iA (i + 1 : Nat))] [.ro 2 n (gSl O S)]) :=
  code_run Gg1_ok (orc := ⟨[true], []⟩) (obl := [decide ((↑i : Int) < (↑n : Int)) = true,
      (0 : Int) ≤ (↑i : Int),
      (↑i : Int) < (↑n : Int),
      Int.toNat (↑i : Int) < n,
      IntKind.wrap IntKind.u64 (pre S i + S (Int.toNat (↑i : Int))) = pre S (i + (1 : Nat)),
      IntKind.wrap IntKind.i64 ((↑i : Int) + (1 : Int)) = (↑(i + (1 : Nat)) : Int),
      n = n,
      ∀ (i : Nat), i < n → O i = O i ∧ S i = S i ∧ True]) (by kernel_rfl) (.cons (by exact decide_eq_true (by omega)) (.cons (by omega) (.cons (by omega) (.cons (by assumption) (.cons (by exact wU64 hp hb) (.cons (by exact w64 (by omega) (by omega)) (.cons (by rfl) (.cons (by exact fun i _ => ⟨rfl, rfl, trivial⟩) .nil)))))))) (Nat.le_of_ble_eq_true (by kernel_rfl))

set_option maxHeartbeats 2000000 in
theorem rr_e (n : Nat) (O S : Nat → Int) (hn : n ≤ 64) : CodeOk Try.prog 1 (loopOf Try.f15 0) (mkSt 19 [(0, .nv (.one (.own 0))), (3, .nv (.one (.val (.int .u64 (pre S n))))), (4, iA n)] [.ro 2 n (gSl O S)]) (.exit 0) (mkSt 19 [(3, .nv (.one (.val (.int .u64 (pre S n)))))] [.ro 2 n (gSl O S)]) :=
  code_run Gg1_ok (orc := ⟨[false], []⟩) (obl := [decide ((↑n : Int) < (↑n : Int)) = false,
      pre S n = pre S n,
      n = n,
      ∀ (i : Nat), i < n → O i = O i ∧ S i = S i ∧ True]) (by kernel_rfl) (.cons (by exact decide_eq_false (by omega)) (.cons (by rfl) (.cons (by rfl) (.cons (by exact fun i _ => ⟨rfl, rfl, trivial⟩) .nil)))) (Nat.le_of_ble_eq_true (by kernel_rfl))
end Go.Proofs.Ytoincoicgfnbiaa
