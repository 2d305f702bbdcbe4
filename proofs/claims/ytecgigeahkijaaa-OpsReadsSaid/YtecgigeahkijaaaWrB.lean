/- Runs of Go code, as printed by a program: no condition beyond those that each states. -/
import Derived.Test.YtecgigeahkijaaaWrA
import Derived.Test.YtecgigeahkijaaaChecked
import Derived.KernelRfl
namespace Go.Proofs.Ytecgigeahkijaaa
set_option linter.unusedVariables false
set_option linter.unusedSimpArgs false
set_option maxRecDepth 100000
open Go.RowKit E
set_option maxHeartbeats 2000000 in
theorem cc_n (n : Nat) (F : Nat → Int) : FnOk Try.prog 28 ([.nv (.one (.ptr 0 0))]) ([.box 52 [.val (.pointer none), .own 1], .row 5 1 n (gB F)]) (.any) (bldM n F) :=
  fn_run Gb0_ok Try.func28 (orc := ⟨[true], []⟩) (obl := [true = true,
      (0 : Nat) = (0 : Nat),
      n = n,
      ∀ (i : Nat), i < n → F i = F i ∧ True]) (by kernel_rfl) (.cons (by rfl) (.cons (by rfl) (.cons (by rfl) (.cons (by (intro _ _; exact ⟨rfl, trivial⟩)) .nil)))) (Nat.le_of_ble_eq_true (by kernel_rfl))

set_option maxHeartbeats 2000000 in
theorem cc_p (n : Nat) (F : Nat → Int) : FnOk Try.prog 28 ([.nv (.one (.ptr 0 0))]) ([.box 52 [.ptr 0 0, .own 1], .row 5 1 n (gB F)]) (.any) (bldM n F) :=
  fn_run Gb0_ok Try.func28 (orc := ⟨[false, false], []⟩) (obl := [false = false,
      false = false,
      (0 : Nat) = (0 : Nat),
      n = n,
      ∀ (i : Nat), i < n → F i = F i ∧ True]) (by kernel_rfl) (.cons (by rfl) (.cons (by rfl) (.cons (by rfl) (.cons (by rfl) (.cons (by (intro _ _; exact ⟨rfl, trivial⟩)) .nil))))) (Nat.le_of_ble_eq_true (by kernel_rfl))
end Go.Proofs.Ytecgigeahkijaaa
