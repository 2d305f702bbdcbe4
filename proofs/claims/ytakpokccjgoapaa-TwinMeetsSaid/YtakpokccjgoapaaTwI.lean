/- Runs of Go code, as printed by a program: no condition beyond those that each states. -/
import Derived.Test.YtakpokccjgoapaaTwB
import Derived.Test.YtakpokccjgoapaaChecked
import Derived.KernelRfl
namespace Go.Proofs.Ytakpokccjgoapaa
set_option linter.unusedVariables false
set_option linter.unusedSimpArgs false
set_option maxRecDepth 100000
open Go.RowKit E
set_option maxHeartbeats 2000000 in
theorem slfI (n : Nat) (T R : Tw Int) (c m : Int) (l : CodeOk Try.prog 2 (.loop (loopOf Try.f33 0)) (mkSt 96 [(0, .nv (.one (.ptr 0 0))), (2, iA (0 : Nat))] (twMI n T c m)) .ret (mkSt 96 [] (twMI n R c m))) : FnOk Try.prog 33 ([.nv (.one (.ptr 0 0))]) (twMI n T c m) (.any) (twMI n R c m) :=
  fn_run Gt0_ok Try.func33 (orc := ⟨[], [⟨mkSt 96 [(0, .nv (.one (.ptr 0 0))), (2, iA (0 : Nat))] (twMI n T c m), .ret, mkSt 96 [] (twMI n R c m)⟩]⟩) (obl := [(0 : Nat) = (0 : Nat),
      (0 : Int) = (↑(0 : Nat) : Int),
      c = c,
      m = m,
      n = n,
      ∀ (i : Nat), i < n → Tw.r T i = Tw.r T i ∧ Tw.c T i = Tw.c T i ∧ Tw.x T i = Tw.x T i ∧ True,
      (2 : Nat) ≤ (2 : Nat),
      CodeOk Try.prog (2 : Nat) (Code.loop (loopOf Try.f33 (0 : Nat))) (mkSt (96 : Nat) [((0 : Nat), SV.nv (NV.one (At.ptr (0 : Nat) (0 : Nat)))), ((2 : Nat), iA (↑(0 : Nat) : Int))] (twMI n T c m)) Ex.ret (mkSt (96 : Nat) [] (twMI n R c m)),
      c = c,
      m = m,
      n = n,
      ∀ (i : Nat), i < n → Tw.r R i = Tw.r R i ∧ Tw.c R i = Tw.c R i ∧ Tw.x R i = Tw.x R i ∧ True]) (by kernel_rfl) (.cons (by rfl) (.cons (by rfl) (.cons (by rfl) (.cons (by rfl) (.cons (by rfl) (.cons (by (intro _ _; exact ⟨rfl, rfl, rfl, trivial⟩)) (.cons (by trivial) (.cons (by assumption) (.cons (by rfl) (.cons (by rfl) (.cons (by rfl) (.cons (by (intro _ _; exact ⟨rfl, rfl, rfl, trivial⟩)) .nil)))))))))))) (Nat.le_of_ble_eq_true (by kernel_rfl))

set_option maxHeartbeats 2000000 in
theorem shfI (n : Nat) (T R : Tw Int) (c m : Int) (l : CodeOk Try.prog 2 (.loop (loopOf Try.f34 0)) (mkSt 98 [(0, .nv (.one (.ptr 0 0))), (2, iA (0 : Nat))] (twMI n T c m)) .ret (mkSt 98 [] (twMI n R c m))) : FnOk Try.prog 34 ([.nv (.one (.ptr 0 0))]) (twMI n T c m) (.any) (twMI n R c m) :=
  fn_run Gt0_ok Try.func34 (orc := ⟨[], [⟨mkSt 98 [(0, .nv (.one (.ptr 0 0))), (2, iA (0 : Nat))] (twMI n T c m), .ret, mkSt 98 [] (twMI n R c m)⟩]⟩) (obl := [(0 : Nat) = (0 : Nat),
      (0 : Int) = (↑(0 : Nat) : Int),
      c = c,
      m = m,
      n = n,
      ∀ (i : Nat), i < n → Tw.r T i = Tw.r T i ∧ Tw.c T i = Tw.c T i ∧ Tw.x T i = Tw.x T i ∧ True,
      (2 : Nat) ≤ (2 : Nat),
      CodeOk Try.prog (2 : Nat) (Code.loop (loopOf Try.f34 (0 : Nat))) (mkSt (98 : Nat) [((0 : Nat), SV.nv (NV.one (At.ptr (0 : Nat) (0 : Nat)))), ((2 : Nat), iA (↑(0 : Nat) : Int))] (twMI n T c m)) Ex.ret (mkSt (98 : Nat) [] (twMI n R c m)),
      c = c,
      m = m,
      n = n,
      ∀ (i : Nat), i < n → Tw.r R i = Tw.r R i ∧ Tw.c R i = Tw.c R i ∧ Tw.x R i = Tw.x R i ∧ True]) (by kernel_rfl) (.cons (by rfl) (.cons (by rfl) (.cons (by rfl) (.cons (by rfl) (.cons (by rfl) (.cons (by (intro _ _; exact ⟨rfl, rfl, rfl, trivial⟩)) (.cons (by trivial) (.cons (by assumption) (.cons (by rfl) (.cons (by rfl) (.cons (by rfl) (.cons (by (intro _ _; exact ⟨rfl, rfl, rfl, trivial⟩)) .nil)))))))))))) (Nat.le_of_ble_eq_true (by kernel_rfl))
end Go.Proofs.Ytakpokccjgoapaa
