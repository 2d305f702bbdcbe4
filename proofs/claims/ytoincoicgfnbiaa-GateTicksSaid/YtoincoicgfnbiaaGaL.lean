/- Runs of Go code, as printed by a program: no condition beyond those that each states. -/
import Derived.Test.YtoincoicgfnbiaaGaK
import Derived.Test.YtoincoicgfnbiaaChecked
import Derived.KernelRfl
namespace Go.Proofs.Ytoincoicgfnbiaa
set_option linter.unusedVariables false
set_option linter.unusedSimpArgs false
set_option maxRecDepth 100000
open Go.RowKit E
attribute [local irreducible] allS okN chk pre sl slt opB opZ alwB rndN gmB lft hlv isB opnN spn opj tmj alwR stF rSt
set_option maxHeartbeats 2000000 in
theorem rx_r (n i c : Nat) (O S : Nat → Int) (q t t2 : Int) (hi : i ≤ n) (hok : okN n S = true) (hn : n ≤ 64) (hc : c ≤ 7) (hal : alwR O c n = false) (ht : 0 ≤ t) (ht2 : t ≤ 13835058055282163712) (hg : ¬ rSt n O S c t ≥ q) (hR : pre S n ≠ 0) (hp : IntKind.wrap .u64 (t + IntKind.wrap .u64 (pre S (slt n S t + 1) - Int.tmod t (pre S n))) = t2) : CodeOk Try.prog 1 (loopOf Try.f18 0) (mkSt 46 [(0, .nv (.one (.own 0))), (1, iA c), (3, .nv (.one (.val (.int .u64 (q))))), (10, .nv (.one (.val (.int .u64 (t))))), (11, iA i)] [.ro 2 n (gSl O S)]) .normal (mkSt 46 [(0, .nv (.one (.own 0))), (1, iA c), (3, .nv (.one (.val (.int .u64 (q))))), (10, .nv (.one (.val (.int .u64 (t2))))), (11, iA (i + 1 : Nat))] [.ro 2 n (gSl O S)]) :=
  code_run Gg5_ok (orc := ⟨[true, false], []⟩) (obl := [decide ((↑i : Int) ≤ (↑n : Int)) = true,
      okN n (sOf (gSl O S)) = true,
      Int.toNat (↑c : Int) ≤ (7 : Nat),
      alwR (oOf (gSl O S)) (Int.toNat (↑c : Int)) n = false,
      (0 : Int) ≤ t,
      (↑c : Int) = (↑(Int.toNat (↑c : Int)) : Int),
      t = t,
      n = n,
      ∀ (i : Nat), i < n → O i = oOf (gSl O S) i ∧ S i = sOf (gSl O S) i ∧ True,
      decide (rSt n (oOf (gSl O S)) (sOf (gSl O S)) (Int.toNat (↑c : Int)) t ≥ q) = false,
      okN n (sOf (gSl O S)) = true,
      (0 : Int) ≤ t,
      t = t,
      n = n,
      ∀ (i : Nat), i < n → O i = oOf (gSl O S) i ∧ S i = sOf (gSl O S) i ∧ True,
      okN n (sOf (gSl O S)) = true,
      n = n,
      ∀ (i : Nat), i < n → O i = oOf (gSl O S) i ∧ S i = sOf (gSl O S) i ∧ True,
      pre (sOf (gSl O S)) n ≠ (0 : Int),
      (↑c : Int) = (↑c : Int),
      q = q,
      IntKind.wrap IntKind.u64 (t + IntKind.wrap IntKind.u64 (pre (sOf (gSl O S)) (slt n (sOf (gSl O S)) t + (1 : Nat)) - Int.tmod t (pre (sOf (gSl O S)) n))) = t2,
      IntKind.wrap IntKind.i64 ((↑i : Int) + (1 : Int)) = (↑(i + (1 : Nat)) : Int),
      n = n,
      ∀ (i : Nat), i < n → O i = O i ∧ S i = S i ∧ True]) (by kernel_rfl) (.cons (by exact decide_eq_true (by omega)) (.cons (by assumption) (.cons (by assumption) (.cons (by assumption) (.cons (by assumption) (.cons (by rfl) (.cons (by rfl) (.cons (by rfl) (.cons (by exact fun i _ => ⟨rfl, rfl, trivial⟩) (.cons (by exact decide_eq_false hg) (.cons (by assumption) (.cons (by assumption) (.cons (by rfl) (.cons (by rfl) (.cons (by exact fun i _ => ⟨rfl, rfl, trivial⟩) (.cons (by assumption) (.cons (by rfl) (.cons (by exact fun i _ => ⟨rfl, rfl, trivial⟩) (.cons (by assumption) (.cons (by rfl) (.cons (by rfl) (.cons (by assumption) (.cons (by exact w64 (by omega) (by omega)) (.cons (by rfl) (.cons (by exact fun i _ => ⟨rfl, rfl, trivial⟩) .nil))))))))))))))))))))))))) (Nat.le_of_ble_eq_true (by kernel_rfl))

set_option maxHeartbeats 2000000 in
theorem rx_b (n i c : Nat) (O S : Nat → Int) (q t t2 : Int) (hi : i ≤ n) (hok : okN n S = true) (hn : n ≤ 64) (hc : c ≤ 7) (hal : alwR O c n = false) (ht : 0 ≤ t) (ht2 : t ≤ 13835058055282163712) (hg : rSt n O S c t ≥ q) (b : Bool) (hb : decide (t ≤ 9223372036854775808) = b) : CodeOk Try.prog 1 (loopOf Try.f18 0) (mkSt 46 [(0, .nv (.one (.own 0))), (1, iA c), (3, .nv (.one (.val (.int .u64 (q))))), (10, .nv (.one (.val (.int .u64 (t))))), (11, iA i)] [.ro 2 n (gSl O S)]) .ret (mkSt 46 [(8, .nv (.one (.val (.int .u64 (t))))), (9, bA b)] [.ro 2 n (gSl O S)]) :=
  code_run Gg5_ok (orc := ⟨[true, true], []⟩) (obl := [decide ((↑i : Int) ≤ (↑n : Int)) = true,
      okN n (sOf (gSl O S)) = true,
      Int.toNat (↑c : Int) ≤ (7 : Nat),
      alwR (oOf (gSl O S)) (Int.toNat (↑c : Int)) n = false,
      (0 : Int) ≤ t,
      (↑c : Int) = (↑(Int.toNat (↑c : Int)) : Int),
      t = t,
      n = n,
      ∀ (i : Nat), i < n → O i = oOf (gSl O S) i ∧ S i = sOf (gSl O S) i ∧ True,
      decide (rSt n (oOf (gSl O S)) (sOf (gSl O S)) (Int.toNat (↑c : Int)) t ≥ q) = true,
      t = t,
      decide (t ≤ (9223372036854775808 : Int)) = b,
      n = n,
      ∀ (i : Nat), i < n → O i = O i ∧ S i = S i ∧ True]) (by kernel_rfl) (.cons (by exact decide_eq_true (by omega)) (.cons (by assumption) (.cons (by assumption) (.cons (by assumption) (.cons (by assumption) (.cons (by rfl) (.cons (by rfl) (.cons (by rfl) (.cons (by exact fun i _ => ⟨rfl, rfl, trivial⟩) (.cons (by exact decide_eq_true hg) (.cons (by rfl) (.cons (by assumption) (.cons (by rfl) (.cons (by exact fun i _ => ⟨rfl, rfl, trivial⟩) .nil)))))))))))))) (Nat.le_of_ble_eq_true (by kernel_rfl))

set_option maxHeartbeats 2000000 in
theorem rx_e (n c : Nat) (O S : Nat → Int) (q t : Int) (hn : n ≤ 64) : CodeOk Try.prog 1 (loopOf Try.f18 0) (mkSt 46 [(0, .nv (.one (.own 0))), (1, iA c), (3, .nv (.one (.val (.int .u64 (q))))), (10, .nv (.one (.val (.int .u64 (t))))), (11, iA (n + 1 : Nat))] [.ro 2 n (gSl O S)]) (.exit 0) (mkSt 46 [] [.ro 2 n (gSl O S)]) :=
  code_run Gg5_ok (orc := ⟨[false], []⟩) (obl := [decide ((↑(n + (1 : Nat)) : Int) ≤ (↑n : Int)) = false,
      n = n,
      ∀ (i : Nat), i < n → O i = O i ∧ S i = S i ∧ True]) (by kernel_rfl) (.cons (by exact decide_eq_false (by omega)) (.cons (by rfl) (.cons (by exact fun i _ => ⟨rfl, rfl, trivial⟩) .nil))) (Nat.le_of_ble_eq_true (by kernel_rfl))

set_option maxHeartbeats 2000000 in
theorem rx_f0 (n c : Nat) (O S : Nat → Int) (t : Int) (l : CodeOk Try.prog 1 (.loop (loopOf Try.f18 0)) (mkSt 46 [(0, .nv (.one (.own 0))), (1, iA c), (3, .nv (.one (.val (.int .u64 (1))))), (10, .nv (.one (.val (.int .u64 (t))))), (11, iA 0)] [.ro 2 n (gSl O S)]) (.exit 0) (mkSt 46 [] [.ro 2 n (gSl O S)])) : FnOk Try.prog 18 ([.nv (.one (.own 0)), iA c, .nv (.one (.val (.int .u64 (t)))), .nv (.one (.val (.int .u64 (0))))]) ([.ro 2 n (gSl O S)]) (.tup [.one (.val (.int .u64 0)), .one (.val (.bool false))]) ([.gone]) :=
  fn_run Gg5_ok Try.func18 (orc := ⟨[true], [⟨mkSt 46 [(0, .nv (.one (.own 0))), (1, iA c), (3, .nv (.one (.val (.int .u64 (1))))), (10, .nv (.one (.val (.int .u64 (t))))), (11, iA 0)] [.ro 2 n (gSl O S)], .exit 0, mkSt 46 [] [.ro 2 n (gSl O S)]⟩]⟩) (obl := [((0 : Int) == (0 : Int)) = true,
      (↑c : Int) = (↑c : Int),
      (1 : Int) = (1 : Int),
      t = t,
      (0 : Int) = (0 : Int),
      n = n,
      ∀ (i : Nat), i < n → O i = O i ∧ S i = S i ∧ True,
      (1 : Nat) ≤ (1 : Nat),
      CodeOk Try.prog (1 : Nat) (Code.loop (loopOf Try.f18 (0 : Nat))) (mkSt (46 : Nat) [((0 : Nat), SV.nv (NV.one (At.own (0 : Nat)))), ((1 : Nat), iA (↑c : Int)), ((3 : Nat), SV.nv (NV.one (At.val (Value.int IntKind.u64 (1 : Int))))), ((10 : Nat), SV.nv (NV.one (At.val (Value.int IntKind.u64 t)))), ((11 : Nat), iA (0 : Int))] [Seg.ro (2 : Nat) n (gSl O S)]) (Ex.exit (0 : Nat)) (mkSt (46 : Nat) [] [Seg.ro (2 : Nat) n (gSl O S)]),
      (0 : Int) = (0 : Int),
      false = false]) (by kernel_rfl) (.cons (by rfl) (.cons (by rfl) (.cons (by rfl) (.cons (by rfl) (.cons (by rfl) (.cons (by rfl) (.cons (by exact fun i _ => ⟨rfl, rfl, trivial⟩) (.cons (by trivial) (.cons (by assumption) (.cons (by rfl) (.cons (by rfl) .nil))))))))))) (Nat.le_of_ble_eq_true (by kernel_rfl))

set_option maxHeartbeats 2000000 in
theorem rx_g0 (n c : Nat) (O S : Nat → Int) (t r : Int) (b : Bool) (l : CodeOk Try.prog 1 (.loop (loopOf Try.f18 0)) (mkSt 46 [(0, .nv (.one (.own 0))), (1, iA c), (3, .nv (.one (.val (.int .u64 (1))))), (10, .nv (.one (.val (.int .u64 (t))))), (11, iA 0)] [.ro 2 n (gSl O S)]) .ret (mkSt 46 [(8, .nv (.one (.val (.int .u64 (r))))), (9, bA b)] [.ro 2 n (gSl O S)])) : FnOk Try.prog 18 ([.nv (.one (.own 0)), iA c, .nv (.one (.val (.int .u64 (t)))), .nv (.one (.val (.int .u64 (0))))]) ([.ro 2 n (gSl O S)]) (.tup [.one (.val (.int .u64 r)), .one (.val (.bool b))]) ([.gone]) :=
  fn_run Gg5_ok Try.func18 (orc := ⟨[true], [⟨mkSt 46 [(0, .nv (.one (.own 0))), (1, iA c), (3, .nv (.one (.val (.int .u64 (1))))), (10, .nv (.one (.val (.int .u64 (t))))), (11, iA 0)] [.ro 2 n (gSl O S)], .ret, mkSt 46 [(8, .nv (.one (.val (.int .u64 (r))))), (9, bA b)] [.ro 2 n (gSl O S)]⟩]⟩) (obl := [((0 : Int) == (0 : Int)) = true,
      (↑c : Int) = (↑c : Int),
      (1 : Int) = (1 : Int),
      t = t,
      (0 : Int) = (0 : Int),
      n = n,
      ∀ (i : Nat), i < n → O i = O i ∧ S i = S i ∧ True,
      (1 : Nat) ≤ (1 : Nat),
      CodeOk Try.prog (1 : Nat) (Code.loop (loopOf Try.f18 (0 : Nat))) (mkSt (46 : Nat) [((0 : Nat), SV.nv (NV.one (At.own (0 : Nat)))), ((1 : Nat), iA (↑c : Int)), ((3 : Nat), SV.nv (NV.one (At.val (Value.int IntKind.u64 (1 : Int))))), ((10 : Nat), SV.nv (NV.one (At.val (Value.int IntKind.u64 t)))), ((11 : Nat), iA (0 : Int))] [Seg.ro (2 : Nat) n (gSl O S)]) Ex.ret (mkSt (46 : Nat) [((8 : Nat), SV.nv (NV.one (At.val (Value.int IntKind.u64 r)))), ((9 : Nat), bA b)] [Seg.ro (2 : Nat) n (gSl O S)]),
      r = r,
      b = b]) (by kernel_rfl) (.cons (by rfl) (.cons (by rfl) (.cons (by rfl) (.cons (by rfl) (.cons (by rfl) (.cons (by rfl) (.cons (by exact fun i _ => ⟨rfl, rfl, trivial⟩) (.cons (by trivial) (.cons (by assumption) (.cons (by rfl) (.cons (by rfl) .nil))))))))))) (Nat.le_of_ble_eq_true (by kernel_rfl))

set_option maxHeartbeats 2000000 in
theorem rx_f1 (n c : Nat) (O S : Nat → Int) (t : Int) (q : Int) (hq : ¬ q = 0) (l : CodeOk Try.prog 1 (.loop (loopOf Try.f18 0)) (mkSt 46 [(0, .nv (.one (.own 0))), (1, iA c), (3, .nv (.one (.val (.int .u64 (q))))), (10, .nv (.one (.val (.int .u64 (t))))), (11, iA 0)] [.ro 2 n (gSl O S)]) (.exit 0) (mkSt 46 [] [.ro 2 n (gSl O S)])) : FnOk Try.prog 18 ([.nv (.one (.own 0)), iA c, .nv (.one (.val (.int .u64 (t)))), .nv (.one (.val (.int .u64 (q))))]) ([.ro 2 n (gSl O S)]) (.tup [.one (.val (.int .u64 0)), .one (.val (.bool false))]) ([.gone]) :=
  fn_run Gg5_ok Try.func18 (orc := ⟨[false], [⟨mkSt 46 [(0, .nv (.one (.own 0))), (1, iA c), (3, .nv (.one (.val (.int .u64 (q))))), (10, .nv (.one (.val (.int .u64 (t))))), (11, iA 0)] [.ro 2 n (gSl O S)], .exit 0, mkSt 46 [] [.ro 2 n (gSl O S)]⟩]⟩) (obl := [(q == (0 : Int)) = false,
      (↑c : Int) = (↑c : Int),
      q = q,
      t = t,
      (0 : Int) = (0 : Int),
      n = n,
      ∀ (i : Nat), i < n → O i = O i ∧ S i = S i ∧ True,
      (1 : Nat) ≤ (1 : Nat),
      CodeOk Try.prog (1 : Nat) (Code.loop (loopOf Try.f18 (0 : Nat))) (mkSt (46 : Nat) [((0 : Nat), SV.nv (NV.one (At.own (0 : Nat)))), ((1 : Nat), iA (↑c : Int)), ((3 : Nat), SV.nv (NV.one (At.val (Value.int IntKind.u64 q)))), ((10 : Nat), SV.nv (NV.one (At.val (Value.int IntKind.u64 t)))), ((11 : Nat), iA (0 : Int))] [Seg.ro (2 : Nat) n (gSl O S)]) (Ex.exit (0 : Nat)) (mkSt (46 : Nat) [] [Seg.ro (2 : Nat) n (gSl O S)]),
      (0 : Int) = (0 : Int),
      false = false]) (by kernel_rfl) (.cons (by exact beq_eq_false_iff_ne.2 hq) (.cons (by rfl) (.cons (by rfl) (.cons (by rfl) (.cons (by rfl) (.cons (by rfl) (.cons (by exact fun i _ => ⟨rfl, rfl, trivial⟩) (.cons (by trivial) (.cons (by assumption) (.cons (by rfl) (.cons (by rfl) .nil))))))))))) (Nat.le_of_ble_eq_true (by kernel_rfl))

set_option maxHeartbeats 2000000 in
theorem rx_g1 (n c : Nat) (O S : Nat → Int) (t r : Int) (b : Bool) (q : Int) (hq : ¬ q = 0) (l : CodeOk Try.prog 1 (.loop (loopOf Try.f18 0)) (mkSt 46 [(0, .nv (.one (.own 0))), (1, iA c), (3, .nv (.one (.val (.int .u64 (q))))), (10, .nv (.one (.val (.int .u64 (t))))), (11, iA 0)] [.ro 2 n (gSl O S)]) .ret (mkSt 46 [(8, .nv (.one (.val (.int .u64 (r))))), (9, bA b)] [.ro 2 n (gSl O S)])) : FnOk Try.prog 18 ([.nv (.one (.own 0)), iA c, .nv (.one (.val (.int .u64 (t)))), .nv (.one (.val (.int .u64 (q))))]) ([.ro 2 n (gSl O S)]) (.tup [.one (.val (.int .u64 r)), .one (.val (.bool b))]) ([.gone]) :=
  fn_run Gg5_ok Try.func18 (orc := ⟨[false], [⟨mkSt 46 [(0, .nv (.one (.own 0))), (1, iA c), (3, .nv (.one (.val (.int .u64 (q))))), (10, .nv (.one (.val (.int .u64 (t))))), (11, iA 0)] [.ro 2 n (gSl O S)], .ret, mkSt 46 [(8, .nv (.one (.val (.int .u64 (r))))), (9, bA b)] [.ro 2 n (gSl O S)]⟩]⟩) (obl := [(q == (0 : Int)) = false,
      (↑c : Int) = (↑c : Int),
      q = q,
      t = t,
      (0 : Int) = (0 : Int),
      n = n,
      ∀ (i : Nat), i < n → O i = O i ∧ S i = S i ∧ True,
      (1 : Nat) ≤ (1 : Nat),
      CodeOk Try.prog (1 : Nat) (Code.loop (loopOf Try.f18 (0 : Nat))) (mkSt (46 : Nat) [((0 : Nat), SV.nv (NV.one (At.own (0 : Nat)))), ((1 : Nat), iA (↑c : Int)), ((3 : Nat), SV.nv (NV.one (At.val (Value.int IntKind.u64 q)))), ((10 : Nat), SV.nv (NV.one (At.val (Value.int IntKind.u64 t)))), ((11 : Nat), iA (0 : Int))] [Seg.ro (2 : Nat) n (gSl O S)]) Ex.ret (mkSt (46 : Nat) [((8 : Nat), SV.nv (NV.one (At.val (Value.int IntKind.u64 r)))), ((9 : Nat), bA b)] [Seg.ro (2 : Nat) n (gSl O S)]),
      r = r,
      b = b]) (by kernel_rfl) (.cons (by exact beq_eq_false_iff_ne.2 hq) (.cons (by rfl) (.cons (by rfl) (.cons (by rfl) (.cons (by rfl) (.cons (by rfl) (.cons (by exact fun i _ => ⟨rfl, rfl, trivial⟩) (.cons (by trivial) (.cons (by assumption) (.cons (by rfl) (.cons (by rfl) .nil))))))))))) (Nat.le_of_ble_eq_true (by kernel_rfl))
end Go.Proofs.Ytoincoicgfnbiaa
