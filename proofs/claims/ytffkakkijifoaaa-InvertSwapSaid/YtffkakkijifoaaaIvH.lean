/- Runs of Go code, as printed by a program: no condition beyond those that each states. -/
import Derived.Test.YtffkakkijifoaaaIvG
import Derived.Test.YtffkakkijifoaaaChecked
import Derived.KernelRfl
namespace Go.Proofs.Ytffkakkijifoaaa
set_option linter.unusedVariables false
set_option linter.unusedSimpArgs false
set_option maxRecDepth 100000
open Go.RowKit E
set_option maxHeartbeats 2000000 in
theorem cl_f (n i : Nat) (E : Nat → Int) (x : Int) (hi : i < n) : FnOk Try.prog 18 ([iA i, .nv (.one (.ptr 0 0)), .nv (.one (.ptr 1 0))]) ([.robox 22 [.own 2], .robox 24 [.val (.int .u64 x)], .ro 1 n (gU E)]) (bA (decide (x < E i))) ([.gone, .gone, .gone]) :=
  fn_run G0_ok Try.func18 (orc := ⟨[], []⟩) (obl := [(0 : Int) ≤ (↑i : Int),
      (↑i : Int) < (↑n : Int),
      Int.toNat (↑i : Int) < n,
      decide (E (Int.toNat (↑i : Int)) > x) = decide (x < E i)]) (by kernel_rfl) (.cons (by omega) (.cons (by omega) (.cons (by assumption) (.cons (by rfl) .nil)))) (Nat.le_of_ble_eq_true (by kernel_rfl))
end Go.Proofs.Ytffkakkijifoaaa
