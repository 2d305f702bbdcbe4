/- Runs of Go code, as printed by a program: no condition beyond those that each states. -/
import Derived.Test.YtajdkbgbekdbmaaMlI
import Derived.Test.YtajdkbgbekdbmaaChecked
import Derived.KernelRfl
namespace Go.Proofs.Ytajdkbgbekdbmaa
set_option linter.unusedVariables false
set_option linter.unusedSimpArgs false
set_option maxRecDepth 100000
open Go.RowKit E
set_option maxHeartbeats 2000000 in
theorem nb35 (n : Int) : LawOk Try.prog 6 ([iA n]) ([]) (bA true) :=
  law_run Gmln_ok Try.func6 (orc := ⟨[true, true, true, true, true, true, true, true], []⟩) (obl := [Value.pointer none = Value.pointer none,
      (2 : Nat) = (2 : Nat),
      ∀ (i : Nat), i < (2 : Nat) → AllT (leAts ([] ++ ([((0 : Nat), Bd.same (0 : Nat))] ++ []) ++ ([] ++ [] ++ ([] ++ []))) (1 : Nat) (litG (1 : Nat) [At.val (Value.pointer none), At.val (Value.pointer none)] i) [At.val (Value.pointer none)]),
      Value.pointer none = Value.pointer none,
      n = n,
      (!false) = true,
      (IntKind.wrap IntKind.i64 (IntKind.wrap IntKind.i64 ((0 : Int) + (0 : Int)) + (0 : Int)) == (0 : Int)) = true,
      (!false) = true,
      (!false) = true,
      Value.pointer none = Value.pointer none,
      n = n,
      ∀ (i : Nat), i < (0 : Nat) → (true && true) = true,
      ((↑(0 : Nat) : Int) == (0 : Int)) = true,
      Value.pointer none = Value.pointer none,
      (!false) = true,
      Value.pointer none = Value.pointer none,
      (!false) = true,
      Value.pointer none = Value.pointer none,
      ((0 : Int) == (0 : Int)) = true,
      true = true]) (by kernel_rfl) (.cons (by rfl) (.cons (by rfl) (.cons (by exact two17 ⟨rfl, trivial⟩ ⟨rfl, trivial⟩) (.cons (by rfl) (.cons (by rfl) (.cons (by rfl) (.cons (by rfl) (.cons (by rfl) (.cons (by rfl) (.cons (by rfl) (.cons (by rfl) (.cons (by trivial) (.cons (by rfl) (.cons (by rfl) (.cons (by rfl) (.cons (by rfl) (.cons (by rfl) (.cons (by rfl) (.cons (by rfl) (.cons (by rfl) .nil))))))))))))))))))))
end Go.Proofs.Ytajdkbgbekdbmaa
