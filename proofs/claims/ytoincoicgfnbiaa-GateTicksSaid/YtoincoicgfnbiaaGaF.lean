/- Runs of Go code, as printed by a program: no condition beyond those that each states. -/
import Derived.Test.YtoincoicgfnbiaaGaE
import Derived.Test.YtoincoicgfnbiaaChecked
import Derived.KernelRfl
namespace Go.Proofs.Ytoincoicgfnbiaa
set_option linter.unusedVariables false
set_option linter.unusedSimpArgs false
set_option maxRecDepth 100000
open Go.RowKit E
attribute [local irreducible] allS okN chk pre sl slt opB opZ alwB rndN gmB
set_option maxHeartbeats 2000000 in
theorem sp_f (n k : Nat) (O S : Nat → Int) (t a v r : Int) (ha : Int.tmod t (rndN n S) = a) (hR : rndN n S ≠ 0) (hk : k < n) (hn : n ≤ 64) (hp : IntKind.wrap .u64 (S k - v) = r) (l : CodeOk Try.prog 1 (.loop (loopOf Try.f23 0)) (mkSt 35 [(0, .nv (.one (.own 0))), (1, .nv (.one (.val (.int .u64 (a))))), (6, iA 0)] [.ro 2 n (gSl O S)]) (.exit 0) (mkSt 35 [(0, .nv (.one (.own 0))), (1, .nv (.one (.val (.int .u64 (v))))), (6, iA k)] [.ro 2 n (gSl O S)])) : FnOk Try.prog 23 ([.nv (.one (.own 0)), .nv (.one (.val (.int .u64 (t))))]) ([.ro 2 n (gSl O S)]) (.tup [.one (.val (.int .i64 k)), .one (.val (.int .u64 r))]) ([.gone]) :=
  fn_run Gg2_ok Try.func23 (orc := ⟨[], [⟨mkSt 35 [(0, .nv (.one (.own 0))), (1, .nv (.one (.val (.int .u64 (a))))), (6, iA 0)] [.ro 2 n (gSl O S)], .exit 0, mkSt 35 [(0, .nv (.one (.own 0))), (1, .nv (.one (.val (.int .u64 (v))))), (6, iA k)] [.ro 2 n (gSl O S)]⟩]⟩) (obl := [n = n,
      ∀ (i : Nat), i < n → O i = oOf (gSl O S) i ∧ S i = sOf (gSl O S) i ∧ True,
      rndN n (sOf (gSl O S)) ≠ (0 : Int),
      Int.tmod t (rndN n (sOf (gSl O S))) = a,
      (0 : Int) = (0 : Int),
      n = n,
      ∀ (i : Nat), i < n → O i = O i ∧ S i = S i ∧ True,
      (1 : Nat) ≤ (1 : Nat),
      CodeOk Try.prog (1 : Nat) (Code.loop (loopOf Try.f23 (0 : Nat))) (mkSt (35 : Nat) [((0 : Nat), SV.nv (NV.one (At.own (0 : Nat)))), ((1 : Nat), SV.nv (NV.one (At.val (Value.int IntKind.u64 a)))), ((6 : Nat), iA (0 : Int))] [Seg.ro (2 : Nat) n (gSl O S)]) (Ex.exit (0 : Nat)) (mkSt (35 : Nat) [((0 : Nat), SV.nv (NV.one (At.own (0 : Nat)))), ((1 : Nat), SV.nv (NV.one (At.val (Value.int IntKind.u64 v)))), ((6 : Nat), iA (↑k : Int))] [Seg.ro (2 : Nat) n (gSl O S)]),
      (0 : Int) ≤ (↑k : Int),
      (↑k : Int) < (↑n : Int),
      Int.toNat (↑k : Int) < n,
      (↑k : Int) = (↑k : Int),
      IntKind.wrap IntKind.u64 (S (Int.toNat (↑k : Int)) - v) = r]) (by kernel_rfl) (.cons (by rfl) (.cons (by exact fun i _ => ⟨rfl, rfl, trivial⟩) (.cons (by assumption) (.cons (by assumption) (.cons (by rfl) (.cons (by rfl) (.cons (by exact fun i _ => ⟨rfl, rfl, trivial⟩) (.cons (by trivial) (.cons (by assumption) (.cons (by omega) (.cons (by omega) (.cons (by assumption) (.cons (by rfl) (.cons (by assumption) .nil)))))))))))))) (Nat.le_of_ble_eq_true (by kernel_rfl))

set_option maxHeartbeats 2000000 in
theorem sp_r (n i : Nat) (O S : Nat → Int) (v v' : Int) (hi : i < n) (hn : n ≤ 64) (hg : v ≥ S i) (hp : IntKind.wrap .u64 (v - S i) = v') : CodeOk Try.prog 1 (loopOf Try.f23 0) (mkSt 35 [(0, .nv (.one (.own 0))), (1, .nv (.one (.val (.int .u64 (v))))), (6, iA i)] [.ro 2 n (gSl O S)]) .normal (mkSt 35 [(0, .nv (.one (.own 0))), (1, .nv (.one (.val (.int .u64 (v'))))), (6, iA (i + 1 : Nat))] [.ro 2 n (gSl O S)]) :=
  code_run Gg2_ok (orc := ⟨[true], []⟩) (obl := [(0 : Int) ≤ (↑i : Int),
      (↑i : Int) < (↑n : Int),
      Int.toNat (↑i : Int) < n,
      decide (v ≥ S (Int.toNat (↑i : Int))) = true,
      (0 : Int) ≤ (↑i : Int),
      (↑i : Int) < (↑n : Int),
      Int.toNat (↑i : Int) < n,
      IntKind.wrap IntKind.u64 (v - S (Int.toNat (↑i : Int))) = v',
      IntKind.wrap IntKind.i64 ((↑i : Int) + (1 : Int)) = (↑(i + (1 : Nat)) : Int),
      n = n,
      ∀ (i : Nat), i < n → O i = O i ∧ S i = S i ∧ True]) (by kernel_rfl) (.cons (by omega) (.cons (by omega) (.cons (by assumption) (.cons (by (exact decide_eq_true hg)) (.cons (by omega) (.cons (by omega) (.cons (by assumption) (.cons (by assumption) (.cons (by exact w64 (by omega) (by omega)) (.cons (by rfl) (.cons (by exact fun i _ => ⟨rfl, rfl, trivial⟩) .nil))))))))))) (Nat.le_of_ble_eq_true (by kernel_rfl))

set_option maxHeartbeats 2000000 in
theorem sp_e (n i : Nat) (O S : Nat → Int) (v : Int) (hi : i < n) (hn : n ≤ 64) (hg : ¬ v ≥ S i) : CodeOk Try.prog 1 (loopOf Try.f23 0) (mkSt 35 [(0, .nv (.one (.own 0))), (1, .nv (.one (.val (.int .u64 (v))))), (6, iA i)] [.ro 2 n (gSl O S)]) (.exit 0) (mkSt 35 [(0, .nv (.one (.own 0))), (1, .nv (.one (.val (.int .u64 (v))))), (6, iA i)] [.ro 2 n (gSl O S)]) :=
  code_run Gg2_ok (orc := ⟨[false], []⟩) (obl := [(0 : Int) ≤ (↑i : Int),
      (↑i : Int) < (↑n : Int),
      Int.toNat (↑i : Int) < n,
      decide (v ≥ S (Int.toNat (↑i : Int))) = false,
      v = v,
      (↑i : Int) = (↑i : Int),
      n = n,
      ∀ (i : Nat), i < n → O i = O i ∧ S i = S i ∧ True]) (by kernel_rfl) (.cons (by omega) (.cons (by omega) (.cons (by assumption) (.cons (by (exact decide_eq_false hg)) (.cons (by rfl) (.cons (by rfl) (.cons (by rfl) (.cons (by exact fun i _ => ⟨rfl, rfl, trivial⟩) .nil)))))))) (Nat.le_of_ble_eq_true (by kernel_rfl))

set_option maxHeartbeats 2000000 in
theorem sl_f (n k : Nat) (O S : Nat → Int) (t a e : Int) (hok : okN n S = true) (ha : Int.tmod t (pre S n) = a) (hR : pre S n ≠ 0) (hn : n ≤ 64) (l : CodeOk Try.prog 1 (.loop (loopOf Try.f14 0)) (mkSt 30 [(0, .nv (.one (.own 0))), (1, .nv (.one (.val (.int .u64 (a))))), (6, .nv (.one (.val (.int .u64 (0))))), (7, iA 0)] [.ro 2 n (gSl O S)]) .ret (mkSt 30 [(4, iA k), (5, .nv (.one (.val (.int .u64 (e)))))] [.ro 2 n (gSl O S)])) : FnOk Try.prog 14 ([.nv (.one (.own 0)), .nv (.one (.val (.int .u64 (t))))]) ([.ro 2 n (gSl O S)]) (.tup [.one (.val (.int .i64 k)), .one (.val (.int .u64 e))]) ([.gone]) :=
  fn_run Gg2_ok Try.func14 (orc := ⟨[], [⟨mkSt 30 [(0, .nv (.one (.own 0))), (1, .nv (.one (.val (.int .u64 (a))))), (6, .nv (.one (.val (.int .u64 (0))))), (7, iA 0)] [.ro 2 n (gSl O S)], .ret, mkSt 30 [(4, iA k), (5, .nv (.one (.val (.int .u64 (e)))))] [.ro 2 n (gSl O S)]⟩]⟩) (obl := [okN n (sOf (gSl O S)) = true,
      n = n,
      ∀ (i : Nat), i < n → O i = oOf (gSl O S) i ∧ S i = sOf (gSl O S) i ∧ True,
      pre (sOf (gSl O S)) n ≠ (0 : Int),
      Int.tmod t (pre (sOf (gSl O S)) n) = a,
      (0 : Int) = (0 : Int),
      (0 : Int) = (0 : Int),
      n = n,
      ∀ (i : Nat), i < n → O i = O i ∧ S i = S i ∧ True,
      (1 : Nat) ≤ (1 : Nat),
      CodeOk Try.prog (1 : Nat) (Code.loop (loopOf Try.f14 (0 : Nat))) (mkSt (30 : Nat) [((0 : Nat), SV.nv (NV.one (At.own (0 : Nat)))), ((1 : Nat), SV.nv (NV.one (At.val (Value.int IntKind.u64 a)))), ((6 : Nat), SV.nv (NV.one (At.val (Value.int IntKind.u64 (0 : Int))))), ((7 : Nat), iA (0 : Int))] [Seg.ro (2 : Nat) n (gSl O S)]) Ex.ret (mkSt (30 : Nat) [((4 : Nat), iA (↑k : Int)), ((5 : Nat), SV.nv (NV.one (At.val (Value.int IntKind.u64 e))))] [Seg.ro (2 : Nat) n (gSl O S)]),
      (↑k : Int) = (↑k : Int),
      e = e]) (by kernel_rfl) (.cons (by assumption) (.cons (by rfl) (.cons (by exact fun i _ => ⟨rfl, rfl, trivial⟩) (.cons (by assumption) (.cons (by assumption) (.cons (by rfl) (.cons (by rfl) (.cons (by rfl) (.cons (by exact fun i _ => ⟨rfl, rfl, trivial⟩) (.cons (by trivial) (.cons (by assumption) (.cons (by rfl) (.cons (by rfl) .nil))))))))))))) (Nat.le_of_ble_eq_true (by kernel_rfl))

set_option maxHeartbeats 2000000 in
theorem sl_r (n i : Nat) (O S : Nat → Int) (a e e' : Int) (hi : i < n) (hn : n ≤ 64) (hp : IntKind.wrap .u64 (e + S i) = e') (hg : ¬ a < e') : CodeOk Try.prog 1 (loopOf Try.f14 0) (mkSt 30 [(0, .nv (.one (.own 0))), (1, .nv (.one (.val (.int .u64 (a))))), (6, .nv (.one (.val (.int .u64 (e))))), (7, iA i)] [.ro 2 n (gSl O S)]) .normal (mkSt 30 [(0, .nv (.one (.own 0))), (1, .nv (.one (.val (.int .u64 (a))))), (6, .nv (.one (.val (.int .u64 (e'))))), (7, iA (i + 1 : Nat))] [.ro 2 n (gSl O S)]) :=
  code_run Gg2_ok (orc := ⟨[true, false], []⟩) (obl := [decide ((↑i : Int) < (↑n : Int)) = true,
      (0 : Int) ≤ (↑i : Int),
      (↑i : Int) < (↑n : Int),
      Int.toNat (↑i : Int) < n,
      decide (a < IntKind.wrap IntKind.u64 (e + S (Int.toNat (↑i : Int)))) = false,
      a = a,
      IntKind.wrap IntKind.u64 (e + S (Int.toNat (↑i : Int))) = e',
      IntKind.wrap IntKind.i64 ((↑i : Int) + (1 : Int)) = (↑(i + (1 : Nat)) : Int),
      n = n,
      ∀ (i : Nat), i < n → O i = O i ∧ S i = S i ∧ True]) (by kernel_rfl) (.cons (by exact decide_eq_true (by omega)) (.cons (by omega) (.cons (by omega) (.cons (by assumption) (.cons (by (simp [*]; done)) (.cons (by rfl) (.cons (by assumption) (.cons (by exact w64 (by omega) (by omega)) (.cons (by rfl) (.cons (by exact fun i _ => ⟨rfl, rfl, trivial⟩) .nil)))))))))) (Nat.le_of_ble_eq_true (by kernel_rfl))

set_option maxHeartbeats 2000000 in
theorem sl_b (n i : Nat) (O S : Nat → Int) (a e e' : Int) (hi : i < n) (hn : n ≤ 64) (hp : IntKind.wrap .u64 (e + S i) = e') (hg : a < e') : CodeOk Try.prog 1 (loopOf Try.f14 0) (mkSt 30 [(0, .nv (.one (.own 0))), (1, .nv (.one (.val (.int .u64 (a))))), (6, .nv (.one (.val (.int .u64 (e))))), (7, iA i)] [.ro 2 n (gSl O S)]) .ret (mkSt 30 [(4, iA i), (5, .nv (.one (.val (.int .u64 (e')))))] [.ro 2 n (gSl O S)]) :=
  code_run Gg2_ok (orc := ⟨[true, true], []⟩) (obl := [decide ((↑i : Int) < (↑n : Int)) = true,
      (0 : Int) ≤ (↑i : Int),
      (↑i : Int) < (↑n : Int),
      Int.toNat (↑i : Int) < n,
      decide (a < IntKind.wrap IntKind.u64 (e + S (Int.toNat (↑i : Int)))) = true,
      (↑i : Int) = (↑i : Int),
      IntKind.wrap IntKind.u64 (e + S (Int.toNat (↑i : Int))) = e',
      n = n,
      ∀ (i : Nat), i < n → O i = O i ∧ S i = S i ∧ True]) (by kernel_rfl) (.cons (by exact decide_eq_true (by omega)) (.cons (by omega) (.cons (by omega) (.cons (by assumption) (.cons (by (show decide (a < IntKind.wrap .u64 (e + S i)) = true; rw [hp]; exact decide_eq_true hg)) (.cons (by rfl) (.cons (by assumption) (.cons (by rfl) (.cons (by exact fun i _ => ⟨rfl, rfl, trivial⟩) .nil))))))))) (Nat.le_of_ble_eq_true (by kernel_rfl))
end Go.Proofs.Ytoincoicgfnbiaa
