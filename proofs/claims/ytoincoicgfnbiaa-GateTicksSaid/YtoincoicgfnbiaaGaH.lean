/- Runs of Go code, as printed by a program: no condition beyond those that each states. -/
import Derived.Test.YtoincoicgfnbiaaGaG
import Derived.Test.YtoincoicgfnbiaaChecked
import Derived.KernelRfl
namespace Go.Proofs.Ytoincoicgfnbiaa
set_option linter.unusedVariables false
set_option linter.unusedSimpArgs false
set_option maxRecDepth 100000
open Go.RowKit E
attribute [local irreducible] allS okN chk pre sl slt opB opZ alwB rndN gmB lft
set_option maxHeartbeats 2000000 in
theorem op_n (n : Nat) (O S : Nat → Int) (t : Int) (hkk : chk n S = 6) : FnOk Try.prog 13 ([.nv (.one (.own 0)), .nv (.one (.val (.int .u64 (t))))]) ([.ro 2 n (gSl O S)]) (.nv (.one (.val (.int .u8 (0))))) ([.gone]) :=
  fn_run Gg3_ok Try.func13 (orc := ⟨[true], []⟩) (obl := [n = n,
      ∀ (i : Nat), i < n → O i = oOf (gSl O S) i ∧ S i = sOf (gSl O S) i ∧ True,
      (chk n (sOf (gSl O S)) != (0 : Int)) = true,
      (0 : Int) = (0 : Int)]) (by kernel_rfl) (.cons (by rfl) (.cons (by exact fun i _ => ⟨rfl, rfl, trivial⟩) (.cons (by (show (chk n S != 0) = true; rw [hkk]; rfl)) (.cons (by rfl) .nil)))) (Nat.le_of_ble_eq_true (by kernel_rfl))

set_option maxHeartbeats 2000000 in
theorem op_y (n : Nat) (O S : Nat → Int) (t r : Int) (hkk : chk n S = 0) (hok : okN n S = true) (ht : 0 ≤ t) (hk : slt n S t < n) (hn : n ≤ 64) (hr : O (slt n S t) = r) : FnOk Try.prog 13 ([.nv (.one (.own 0)), .nv (.one (.val (.int .u64 (t))))]) ([.ro 2 n (gSl O S)]) (.nv (.one (.val (.int .u8 (r))))) ([.gone]) :=
  fn_run Gg3_ok Try.func13 (orc := ⟨[false], []⟩) (obl := [n = n,
      ∀ (i : Nat), i < n → O i = oOf (gSl O S) i ∧ S i = sOf (gSl O S) i ∧ True,
      (chk n (sOf (gSl O S)) != (0 : Int)) = false,
      okN n (sOf (gSl O S)) = true,
      (0 : Int) ≤ t,
      t = t,
      n = n,
      ∀ (i : Nat), i < n → O i = oOf (gSl O S) i ∧ S i = sOf (gSl O S) i ∧ True,
      (0 : Int) ≤ (↑(slt n (sOf (gSl O S)) t) : Int),
      (↑(slt n (sOf (gSl O S)) t) : Int) < (↑n : Int),
      Int.toNat (↑(slt n (sOf (gSl O S)) t) : Int) < n,
      O (Int.toNat (↑(slt n (sOf (gSl O S)) t) : Int)) = r]) (by kernel_rfl) (.cons (by rfl) (.cons (by exact fun i _ => ⟨rfl, rfl, trivial⟩) (.cons (by (show (chk n S != 0) = false; rw [hkk]; rfl)) (.cons (by assumption) (.cons (by assumption) (.cons (by rfl) (.cons (by rfl) (.cons (by exact fun i _ => ⟨rfl, rfl, trivial⟩) (.cons (by (show (0 : Int) ≤ ((slt n S t : Nat) : Int); omega)) (.cons (by (show ((slt n S t : Nat) : Int) < (n : Int); omega)) (.cons (by assumption) (.cons (by assumption) .nil)))))))))))) (Nat.le_of_ble_eq_true (by kernel_rfl))

set_option maxHeartbeats 2000000 in
theorem is_f (n : Nat) (O S : Nat → Int) (t r x : Int) (c : Nat) (hok : okN n S = true) (ht : 0 ≤ t) (hk : slt n S t < n) (hn : n ≤ 64) (hr : O (slt n S t) = r) (b : Bool) (hb : (Int.tmod x 2 == 1) = b) (l : CodeOk Try.prog 1 (.loop (loopOf Try.f24 0)) (mkSt 32 [(1, iA c), (9, .nv (.one (.val (.int .u8 (r))))), (10, iA 0)] [.ro 2 n (gSl O S)]) (.exit 0) (mkSt 32 [(9, .nv (.one (.val (.int .u8 (x)))))] [.ro 2 n (gSl O S)])) : FnOk Try.prog 24 ([.nv (.one (.own 0)), iA c, .nv (.one (.val (.int .u64 (t))))]) ([.ro 2 n (gSl O S)]) (bA b) ([.gone]) :=
  fn_run Gg3_ok Try.func24 (orc := ⟨[], [⟨mkSt 32 [(1, iA c), (9, .nv (.one (.val (.int .u8 (r))))), (10, iA 0)] [.ro 2 n (gSl O S)], .exit 0, mkSt 32 [(9, .nv (.one (.val (.int .u8 (x)))))] [.ro 2 n (gSl O S)]⟩]⟩) (obl := [okN n (sOf (gSl O S)) = true,
      (0 : Int) ≤ t,
      t = t,
      n = n,
      ∀ (i : Nat), i < n → O i = oOf (gSl O S) i ∧ S i = sOf (gSl O S) i ∧ True,
      (0 : Int) ≤ (↑(slt n (sOf (gSl O S)) t) : Int),
      (↑(slt n (sOf (gSl O S)) t) : Int) < (↑n : Int),
      Int.toNat (↑(slt n (sOf (gSl O S)) t) : Int) < n,
      (↑c : Int) = (↑c : Int),
      O (Int.toNat (↑(slt n (sOf (gSl O S)) t) : Int)) = r,
      (0 : Int) = (0 : Int),
      n = n,
      ∀ (i : Nat), i < n → O i = O i ∧ S i = S i ∧ True,
      (1 : Nat) ≤ (1 : Nat),
      CodeOk Try.prog (1 : Nat) (Code.loop (loopOf Try.f24 (0 : Nat))) (mkSt (32 : Nat) [((1 : Nat), iA (↑c : Int)), ((9 : Nat), SV.nv (NV.one (At.val (Value.int IntKind.u8 r)))), ((10 : Nat), iA (0 : Int))] [Seg.ro (2 : Nat) n (gSl O S)]) (Ex.exit (0 : Nat)) (mkSt (32 : Nat) [((9 : Nat), SV.nv (NV.one (At.val (Value.int IntKind.u8 x))))] [Seg.ro (2 : Nat) n (gSl O S)]),
      (2 : Int) ≠ (0 : Int),
      (Int.tmod x (2 : Int) == (1 : Int)) = b]) (by kernel_rfl) (.cons (by assumption) (.cons (by assumption) (.cons (by rfl) (.cons (by rfl) (.cons (by exact fun i _ => ⟨rfl, rfl, trivial⟩) (.cons (by (show (0 : Int) ≤ ((slt n S t : Nat) : Int); omega)) (.cons (by (show ((slt n S t : Nat) : Int) < (n : Int); omega)) (.cons (by assumption) (.cons (by rfl) (.cons (by assumption) (.cons (by rfl) (.cons (by rfl) (.cons (by exact fun i _ => ⟨rfl, rfl, trivial⟩) (.cons (by trivial) (.cons (by assumption) (.cons (by trivial) (.cons (by assumption) .nil))))))))))))))))) (Nat.le_of_ble_eq_true (by kernel_rfl))

set_option maxHeartbeats 2000000 in
theorem is_r (n i c : Nat) (O S : Nat → Int) (x x' : Int) (hi : i < c) (hc : c ≤ 7) (hd : IntKind.wrap .u8 (Int.tdiv x 2) = x') : CodeOk Try.prog 1 (loopOf Try.f24 0) (mkSt 32 [(1, iA c), (9, .nv (.one (.val (.int .u8 (x))))), (10, iA i)] [.ro 2 n (gSl O S)]) .normal (mkSt 32 [(1, iA c), (9, .nv (.one (.val (.int .u8 (x'))))), (10, iA (i + 1 : Nat))] [.ro 2 n (gSl O S)]) :=
  code_run Gg3_ok (orc := ⟨[true], []⟩) (obl := [decide ((↑i : Int) < (↑c : Int)) = true,
      (2 : Int) ≠ (0 : Int),
      (↑c : Int) = (↑c : Int),
      IntKind.wrap IntKind.u8 (Int.tdiv x (2 : Int)) = x',
      IntKind.wrap IntKind.i64 ((↑i : Int) + (1 : Int)) = (↑(i + (1 : Nat)) : Int),
      n = n,
      ∀ (i : Nat), i < n → O i = O i ∧ S i = S i ∧ True]) (by kernel_rfl) (.cons (by exact decide_eq_true (by omega)) (.cons (by trivial) (.cons (by rfl) (.cons (by assumption) (.cons (by exact w64 (by omega) (by omega)) (.cons (by rfl) (.cons (by exact fun i _ => ⟨rfl, rfl, trivial⟩) .nil))))))) (Nat.le_of_ble_eq_true (by kernel_rfl))

set_option maxHeartbeats 2000000 in
theorem is_e (n c : Nat) (O S : Nat → Int) (x : Int) (hc : c ≤ 7) : CodeOk Try.prog 1 (loopOf Try.f24 0) (mkSt 32 [(1, iA c), (9, .nv (.one (.val (.int .u8 (x))))), (10, iA c)] [.ro 2 n (gSl O S)]) (.exit 0) (mkSt 32 [(9, .nv (.one (.val (.int .u8 (x)))))] [.ro 2 n (gSl O S)]) :=
  code_run Gg3_ok (orc := ⟨[false], []⟩) (obl := [decide ((↑c : Int) < (↑c : Int)) = false,
      x = x,
      n = n,
      ∀ (i : Nat), i < n → O i = O i ∧ S i = S i ∧ True]) (by kernel_rfl) (.cons (by exact decide_eq_false (by omega)) (.cons (by rfl) (.cons (by rfl) (.cons (by exact fun i _ => ⟨rfl, rfl, trivial⟩) .nil)))) (Nat.le_of_ble_eq_true (by kernel_rfl))
end Go.Proofs.Ytoincoicgfnbiaa
