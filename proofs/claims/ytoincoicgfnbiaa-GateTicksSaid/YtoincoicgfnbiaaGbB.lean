/- Runs of Go code, as printed by a program: no condition beyond those that each states. -/
import Derived.Test.YtoincoicgfnbiaaGbA
import Derived.Test.YtoincoicgfnbiaaChecked
import Derived.KernelRfl
namespace Go.Proofs.Ytoincoicgfnbiaa
set_option linter.unusedVariables false
set_option linter.unusedSimpArgs false
set_option maxRecDepth 100000
open Go.RowKit E
attribute [local irreducible] allS okN chk pre sl slt opB opZ alwB rndN gmB lft hlv isB opnN spn opj tmj alwR stF rSt nxI nxV nxB ndQ syB syV nnB nnV pSt pnB pnV spB spF tkF
set_option maxHeartbeats 2000000 in
theorem it_f (n q : Nat) (t c : Int) (G : Nat → Int) (b : Bool) (hq : Int.tmod t (n : Int) = (q : Int)) (hqn : q < n) (hc : 0 ≤ c) (hb : opB (G q) c = b) : FnOk Try.prog 19 ([iA t, .nv (.one (.ptr 0 0)), .nv (.one (.ptr 1 0))]) ([.robox 43 [.own 2], .robox 3 [.val (.int .i64 c)], .ro 1 n (gB8 G)]) (bA b) ([.gone, .gone, .gone]) :=
  fn_run Gg9_ok Try.func19 (orc := ⟨[], []⟩) (obl := [(↑n : Int) ≠ (0 : Int),
      (0 : Int) ≤ Int.tmod t (↑n : Int),
      Int.tmod t (↑n : Int) < (↑n : Int),
      Int.toNat (Int.tmod t (↑n : Int)) < n,
      (0 : Int) ≤ c,
      (bits BinOp.and IntKind.u8 (Int.fdiv (G (Int.toNat (Int.tmod t (↑n : Int)))) ((2 : Int) ^ min (Int.toNat c) (IntKind.bits IntKind.u8))) (1 : Int) == (1 : Int)) = b]) (by kernel_rfl) (.cons (by omega) (.cons (by (rw [hq]; omega)) (.cons (by (rw [hq]; omega)) (.cons (by (rw [hq]; omega)) (.cons (by assumption) (.cons (by (simp only [hq, Int.toNat_natCast]; rw [← hb]; unfold opB; rfl)) .nil)))))) (Nat.le_of_ble_eq_true (by kernel_rfl))
end Go.Proofs.Ytoincoicgfnbiaa
