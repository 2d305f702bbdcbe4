/- Runs of Go code, as printed by a program: no condition beyond those that each states. -/
import Derived.Test.YtoincoicgfnbiaaGaU
import Derived.Test.YtoincoicgfnbiaaChecked
import Derived.KernelRfl
namespace Go.Proofs.Ytoincoicgfnbiaa
set_option linter.unusedVariables false
set_option linter.unusedSimpArgs false
set_option maxRecDepth 100000
open Go.RowKit E
set_option maxHeartbeats 2000000 in
theorem lv_f  : PureOk Try.prog 6 ([]) (bA true) :=
  pure_run Gg8_ok Try.func6 (orc := ⟨[true, true, true, true, true], []⟩) (obl := [(0 : Int) ≤ (2 : Int),
      (0 : Int) = (0 : Int),
      (2 : Int) = (2 : Int),
      (2 : Int) = (2 : Int),
      (2 : Nat) = (2 : Nat),
      ∀ (i : Nat), i < (2 : Nat) → AllT (leAts ([] ++ ([((0 : Nat), Bd.same (0 : Nat))] ++ ([] ++ ([] ++ ([] ++ [])))) ++ ([] ++ [] ++ ([] ++ []))) (1 : Nat) (litG (2 : Nat) [At.val (Value.int IntKind.u8 (1 : Int)), At.val (Value.int IntKind.u64 (3 : Int)), At.val (Value.int IntKind.u8 (2 : Int)), At.val (Value.int IntKind.u64 (5 : Int))] i) (gSl (oOf (litG (2 : Nat) [At.val (Value.int IntKind.u8 (1 : Int)), At.val (Value.int IntKind.u64 (3 : Int)), At.val (Value.int IntKind.u8 (2 : Int)), At.val (Value.int IntKind.u64 (5 : Int))])) (sOf (litG (2 : Nat) [At.val (Value.int IntKind.u8 (1 : Int)), At.val (Value.int IntKind.u64 (3 : Int)), At.val (Value.int IntKind.u8 (2 : Int)), At.val (Value.int IntKind.u64 (5 : Int))])) i)),
      (0 : Int) ≤ (2 : Int),
      (0 : Int) = (0 : Int),
      (2 : Int) = (2 : Int),
      (4 : Int) = (4 : Int),
      (2 : Nat) = (2 : Nat),
      ∀ (i : Nat), i < (2 : Nat) → AllT (leAts ([] ++ ([((0 : Nat), Bd.same (0 : Nat))] ++ ([] ++ ([] ++ ([] ++ [])))) ++ ([] ++ [] ++ ([] ++ []))) (1 : Nat) (litG (2 : Nat) [At.val (Value.int IntKind.u8 (1 : Int)), At.val (Value.int IntKind.u64 (3 : Int)), At.val (Value.int IntKind.u8 (2 : Int)), At.val (Value.int IntKind.u64 (5 : Int))] i) (gSl (oOf (litG (2 : Nat) [At.val (Value.int IntKind.u8 (1 : Int)), At.val (Value.int IntKind.u64 (3 : Int)), At.val (Value.int IntKind.u8 (2 : Int)), At.val (Value.int IntKind.u64 (5 : Int))])) (sOf (litG (2 : Nat) [At.val (Value.int IntKind.u8 (1 : Int)), At.val (Value.int IntKind.u64 (3 : Int)), At.val (Value.int IntKind.u8 (2 : Int)), At.val (Value.int IntKind.u64 (5 : Int))])) i)),
      (0 : Int) ≤ (8 : Int),
      (8 : Int) = (8 : Int),
      (2 : Nat) = (2 : Nat),
      ∀ (i : Nat), i < (2 : Nat) → AllT (leAts ([] ++ ([((0 : Nat), Bd.same (0 : Nat))] ++ ([] ++ [])) ++ ([] ++ [] ++ ([] ++ []))) (1 : Nat) (litG (2 : Nat) [At.val (Value.int IntKind.u8 (1 : Int)), At.val (Value.int IntKind.u64 (3 : Int)), At.val (Value.int IntKind.u8 (2 : Int)), At.val (Value.int IntKind.u64 (5 : Int))] i) (gSl (oOf (litG (2 : Nat) [At.val (Value.int IntKind.u8 (1 : Int)), At.val (Value.int IntKind.u64 (3 : Int)), At.val (Value.int IntKind.u8 (2 : Int)), At.val (Value.int IntKind.u64 (5 : Int))])) (sOf (litG (2 : Nat) [At.val (Value.int IntKind.u8 (1 : Int)), At.val (Value.int IntKind.u64 (3 : Int)), At.val (Value.int IntKind.u8 (2 : Int)), At.val (Value.int IntKind.u64 (5 : Int))])) i)),
      (opnN (2 : Nat) (oOf (litG (2 : Nat) [At.val (Value.int IntKind.u8 (1 : Int)), At.val (Value.int IntKind.u64 (3 : Int)), At.val (Value.int IntKind.u8 (2 : Int)), At.val (Value.int IntKind.u64 (5 : Int))])) (sOf (litG (2 : Nat) [At.val (Value.int IntKind.u8 (1 : Int)), At.val (Value.int IntKind.u64 (3 : Int)), At.val (Value.int IntKind.u8 (2 : Int)), At.val (Value.int IntKind.u64 (5 : Int))])) (8 : Int) == (1 : Int)) = true,
      (0 : Int) ≤ (3 : Int),
      (3 : Int) = (3 : Int),
      (2 : Nat) = (2 : Nat),
      ∀ (i : Nat), i < (2 : Nat) → AllT (leAts ([] ++ ([((0 : Nat), Bd.same (0 : Nat))] ++ ([] ++ [])) ++ ([] ++ [] ++ ([] ++ []))) (1 : Nat) (litG (2 : Nat) [At.val (Value.int IntKind.u8 (1 : Int)), At.val (Value.int IntKind.u64 (3 : Int)), At.val (Value.int IntKind.u8 (2 : Int)), At.val (Value.int IntKind.u64 (5 : Int))] i) (gSl (oOf (litG (2 : Nat) [At.val (Value.int IntKind.u8 (1 : Int)), At.val (Value.int IntKind.u64 (3 : Int)), At.val (Value.int IntKind.u8 (2 : Int)), At.val (Value.int IntKind.u64 (5 : Int))])) (sOf (litG (2 : Nat) [At.val (Value.int IntKind.u8 (1 : Int)), At.val (Value.int IntKind.u64 (3 : Int)), At.val (Value.int IntKind.u8 (2 : Int)), At.val (Value.int IntKind.u64 (5 : Int))])) i)),
      (opnN (2 : Nat) (oOf (litG (2 : Nat) [At.val (Value.int IntKind.u8 (1 : Int)), At.val (Value.int IntKind.u64 (3 : Int)), At.val (Value.int IntKind.u8 (2 : Int)), At.val (Value.int IntKind.u64 (5 : Int))])) (sOf (litG (2 : Nat) [At.val (Value.int IntKind.u8 (1 : Int)), At.val (Value.int IntKind.u64 (3 : Int)), At.val (Value.int IntKind.u8 (2 : Int)), At.val (Value.int IntKind.u64 (5 : Int))])) (3 : Int) == (2 : Int)) = true,
      (nnV (2 : Nat) (oOf (litG (2 : Nat) [At.val (Value.int IntKind.u8 (1 : Int)), At.val (Value.int IntKind.u64 (3 : Int)), At.val (Value.int IntKind.u8 (2 : Int)), At.val (Value.int IntKind.u64 (5 : Int))])) (sOf (litG (2 : Nat) [At.val (Value.int IntKind.u8 (1 : Int)), At.val (Value.int IntKind.u64 (3 : Int)), At.val (Value.int IntKind.u8 (2 : Int)), At.val (Value.int IntKind.u64 (5 : Int))])) (0 : Int) (2 : Int) (2 : Int) == (8 : Int)) = true,
      nnB (2 : Nat) (oOf (litG (2 : Nat) [At.val (Value.int IntKind.u8 (1 : Int)), At.val (Value.int IntKind.u64 (3 : Int)), At.val (Value.int IntKind.u8 (2 : Int)), At.val (Value.int IntKind.u64 (5 : Int))])) (sOf (litG (2 : Nat) [At.val (Value.int IntKind.u8 (1 : Int)), At.val (Value.int IntKind.u64 (3 : Int)), At.val (Value.int IntKind.u8 (2 : Int)), At.val (Value.int IntKind.u64 (5 : Int))])) (0 : Int) (2 : Int) (2 : Int) = true,
      (!nnB (2 : Nat) (oOf (litG (2 : Nat) [At.val (Value.int IntKind.u8 (1 : Int)), At.val (Value.int IntKind.u64 (3 : Int)), At.val (Value.int IntKind.u8 (2 : Int)), At.val (Value.int IntKind.u64 (5 : Int))])) (sOf (litG (2 : Nat) [At.val (Value.int IntKind.u8 (1 : Int)), At.val (Value.int IntKind.u64 (3 : Int)), At.val (Value.int IntKind.u8 (2 : Int)), At.val (Value.int IntKind.u64 (5 : Int))])) (0 : Int) (2 : Int) (4 : Int)) = true,
      (2 : Nat) = (2 : Nat),
      ∀ (i : Nat), i < (2 : Nat) → AllT (leAts ([] ++ ([((0 : Nat), Bd.same (0 : Nat))] ++ []) ++ ([] ++ [] ++ ([] ++ []))) (1 : Nat) (litG (2 : Nat) [At.val (Value.int IntKind.u8 (1 : Int)), At.val (Value.int IntKind.u64 (3 : Int)), At.val (Value.int IntKind.u8 (2 : Int)), At.val (Value.int IntKind.u64 (5 : Int))] i) (gSl (oOf (litG (2 : Nat) [At.val (Value.int IntKind.u8 (1 : Int)), At.val (Value.int IntKind.u64 (3 : Int)), At.val (Value.int IntKind.u8 (2 : Int)), At.val (Value.int IntKind.u64 (5 : Int))])) (sOf (litG (2 : Nat) [At.val (Value.int IntKind.u8 (1 : Int)), At.val (Value.int IntKind.u64 (3 : Int)), At.val (Value.int IntKind.u8 (2 : Int)), At.val (Value.int IntKind.u64 (5 : Int))])) i)),
      (rndN (2 : Nat) (sOf (litG (2 : Nat) [At.val (Value.int IntKind.u8 (1 : Int)), At.val (Value.int IntKind.u64 (3 : Int)), At.val (Value.int IntKind.u8 (2 : Int)), At.val (Value.int IntKind.u64 (5 : Int))])) == (8 : Int)) = true]) (by kernel_rfl) (.cons (by trivial) (.cons (by rfl) (.cons (by rfl) (.cons (by rfl) (.cons (by rfl) (.cons (by exact forall2 ⟨rfl, rfl, trivial⟩ ⟨rfl, rfl, trivial⟩) (.cons (by trivial) (.cons (by rfl) (.cons (by rfl) (.cons (by rfl) (.cons (by rfl) (.cons (by exact forall2 ⟨rfl, rfl, trivial⟩ ⟨rfl, rfl, trivial⟩) (.cons (by trivial) (.cons (by rfl) (.cons (by rfl) (.cons (by exact forall2 ⟨rfl, rfl, trivial⟩ ⟨rfl, rfl, trivial⟩) (.cons (by rfl) (.cons (by trivial) (.cons (by rfl) (.cons (by rfl) (.cons (by exact forall2 ⟨rfl, rfl, trivial⟩ ⟨rfl, rfl, trivial⟩) (.cons (by rfl) (.cons (by decide +kernel) (.cons (by rfl) (.cons (by rfl) (.cons (by rfl) (.cons (by exact forall2 ⟨rfl, rfl, trivial⟩ ⟨rfl, rfl, trivial⟩) (.cons (by rfl) .nil))))))))))))))))))))))))))))

set_option maxHeartbeats 2000000 in
theorem ml_n (n : Nat) (c : Int) (O S : Nat → Int) (hn : n ≤ 9223372036854775807) (hk : okN n S = false) : FnOk Try.prog 11 ([.nv (.one (.own 0)), iA c]) ([.ro 2 n (gSl O S)]) (bA false) ([.gone]) :=
  fn_run Gg8_ok Try.func11 (orc := ⟨[false, false], []⟩) (obl := [n ≤ (9223372036854775807 : Nat),
      n = n,
      ∀ (i : Nat), i < n → O i = oOf (gSl O S) i ∧ S i = sOf (gSl O S) i ∧ True,
      okN n (sOf (gSl O S)) = false,
      false = false,
      false = false]) (by kernel_rfl) (.cons (by assumption) (.cons (by rfl) (.cons (by exact fun i _ => ⟨rfl, rfl, trivial⟩) (.cons (by assumption) (.cons (by rfl) (.cons (by rfl) .nil)))))) (Nat.le_of_ble_eq_true (by kernel_rfl))

set_option maxHeartbeats 2000000 in
theorem ml_l (n : Nat) (c : Int) (O S : Nat → Int) (hn : n ≤ 9223372036854775807) (hk : okN n S = true) (h0 : ¬ c ≥ 0) : FnOk Try.prog 11 ([.nv (.one (.own 0)), iA c]) ([.ro 2 n (gSl O S)]) (bA false) ([.gone]) :=
  fn_run Gg8_ok Try.func11 (orc := ⟨[true, false], []⟩) (obl := [n ≤ (9223372036854775807 : Nat),
      n = n,
      ∀ (i : Nat), i < n → O i = oOf (gSl O S) i ∧ S i = sOf (gSl O S) i ∧ True,
      okN n (sOf (gSl O S)) = true,
      decide (c ≥ (0 : Int)) = false,
      false = false]) (by kernel_rfl) (.cons (by assumption) (.cons (by rfl) (.cons (by exact fun i _ => ⟨rfl, rfl, trivial⟩) (.cons (by assumption) (.cons (by exact decide_eq_false h0) (.cons (by rfl) .nil)))))) (Nat.le_of_ble_eq_true (by kernel_rfl))

set_option maxHeartbeats 2000000 in
theorem ml_h (n : Nat) (c : Int) (O S : Nat → Int) (hn : n ≤ 9223372036854775807) (hk : okN n S = true) (h0 : c ≥ 0) (b : Bool) (h7 : decide (c ≤ 7) = b) : FnOk Try.prog 11 ([.nv (.one (.own 0)), iA c]) ([.ro 2 n (gSl O S)]) (bA b) ([.gone]) :=
  fn_run Gg8_ok Try.func11 (orc := ⟨[true, true], []⟩) (obl := [n ≤ (9223372036854775807 : Nat),
      n = n,
      ∀ (i : Nat), i < n → O i = oOf (gSl O S) i ∧ S i = sOf (gSl O S) i ∧ True,
      okN n (sOf (gSl O S)) = true,
      decide (c ≥ (0 : Int)) = true,
      decide (c ≤ (7 : Int)) = b]) (by kernel_rfl) (.cons (by assumption) (.cons (by rfl) (.cons (by exact fun i _ => ⟨rfl, rfl, trivial⟩) (.cons (by assumption) (.cons (by exact decide_eq_true h0) (.cons (by assumption) .nil)))))) (Nat.le_of_ble_eq_true (by kernel_rfl))
end Go.Proofs.Ytoincoicgfnbiaa
