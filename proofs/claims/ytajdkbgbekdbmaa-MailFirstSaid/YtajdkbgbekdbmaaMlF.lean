/- Runs of Go code, as printed by a program: no condition beyond those that each states. -/
import Derived.Test.YtajdkbgbekdbmaaMlE
import Derived.Test.YtajdkbgbekdbmaaChecked
import Derived.KernelRfl
namespace Go.Proofs.Ytajdkbgbekdbmaa
set_option linter.unusedVariables false
set_option linter.unusedSimpArgs false
set_option maxRecDepth 100000
open Go.RowKit E
attribute [local irreducible] snocV
set_option maxHeartbeats 2000000 in
theorem shut_okI (cap : Nat) (buf : List Value) : FnOk Try.prog 17 ([pz]) (mbMI false cap buf false) (bA true) (mbMI true cap buf true) :=
  fn_run Gml0_ok Try.func17 (orc := ⟨[false], []⟩) (obl := [(0 : Nat) = (0 : Nat),
      false = false,
      cap = cap,
      buf = buf,
      false = false,
      (!!false) = false,
      true = true,
      true = true,
      cap = cap,
      buf = buf,
      true = true]) (by kernel_rfl) (.cons (by rfl) (.cons (by rfl) (.cons (by rfl) (.cons (by rfl) (.cons (by rfl) (.cons (by rfl) (.cons (by rfl) (.cons (by rfl) (.cons (by rfl) (.cons (by rfl) (.cons (by rfl) .nil))))))))))) (Nat.le_of_ble_eq_true (by kernel_rfl))

set_option maxHeartbeats 2000000 in
theorem shut_noI (cap : Nat) (buf : List Value) (cl : Bool) : FnOk Try.prog 17 ([pz]) (mbMI true cap buf cl) (bA false) (mbMI true cap buf cl) :=
  fn_run Gml0_ok Try.func17 (orc := ⟨[true], []⟩) (obl := [(0 : Nat) = (0 : Nat),
      true = true,
      cap = cap,
      buf = buf,
      cl = cl,
      (!!true) = true,
      false = false,
      true = true,
      cap = cap,
      buf = buf,
      cl = cl]) (by kernel_rfl) (.cons (by rfl) (.cons (by rfl) (.cons (by rfl) (.cons (by rfl) (.cons (by rfl) (.cons (by rfl) (.cons (by rfl) (.cons (by rfl) (.cons (by rfl) (.cons (by rfl) (.cons (by rfl) .nil))))))))))) (Nat.le_of_ble_eq_true (by kernel_rfl))

set_option maxHeartbeats 2000000 in
theorem shut_nilI  : FnOk Try.prog 17 ([pnil]) ([]) (bA false) ([]) :=
  fn_run Gml0_ok Try.func17 (orc := ⟨[true], []⟩) (obl := [Value.pointer none = Value.pointer none,
      (!false) = true,
      false = false]) (by kernel_rfl) (.cons (by rfl) (.cons (by rfl) (.cons (by rfl) .nil))) (Nat.le_of_ble_eq_true (by kernel_rfl))

set_option maxHeartbeats 2000000 in
theorem shut_okS (cap : Nat) (buf : List Value) : FnOk Try.prog 23 ([pz]) (mbMS false cap buf false) (bA true) (mbMS true cap buf true) :=
  fn_run Gml0_ok Try.func23 (orc := ⟨[false], []⟩) (obl := [(0 : Nat) = (0 : Nat),
      false = false,
      cap = cap,
      buf = buf,
      false = false,
      (!!false) = false,
      true = true,
      true = true,
      cap = cap,
      buf = buf,
      true = true]) (by kernel_rfl) (.cons (by rfl) (.cons (by rfl) (.cons (by rfl) (.cons (by rfl) (.cons (by rfl) (.cons (by rfl) (.cons (by rfl) (.cons (by rfl) (.cons (by rfl) (.cons (by rfl) (.cons (by rfl) .nil))))))))))) (Nat.le_of_ble_eq_true (by kernel_rfl))

set_option maxHeartbeats 2000000 in
theorem shut_noS (cap : Nat) (buf : List Value) (cl : Bool) : FnOk Try.prog 23 ([pz]) (mbMS true cap buf cl) (bA false) (mbMS true cap buf cl) :=
  fn_run Gml0_ok Try.func23 (orc := ⟨[true], []⟩) (obl := [(0 : Nat) = (0 : Nat),
      true = true,
      cap = cap,
      buf = buf,
      cl = cl,
      (!!true) = true,
      false = false,
      true = true,
      cap = cap,
      buf = buf,
      cl = cl]) (by kernel_rfl) (.cons (by rfl) (.cons (by rfl) (.cons (by rfl) (.cons (by rfl) (.cons (by rfl) (.cons (by rfl) (.cons (by rfl) (.cons (by rfl) (.cons (by rfl) (.cons (by rfl) (.cons (by rfl) .nil))))))))))) (Nat.le_of_ble_eq_true (by kernel_rfl))

set_option maxHeartbeats 2000000 in
theorem shut_nilS  : FnOk Try.prog 23 ([pnil]) ([]) (bA false) ([]) :=
  fn_run Gml0_ok Try.func23 (orc := ⟨[true], []⟩) (obl := [Value.pointer none = Value.pointer none,
      (!false) = true,
      false = false]) (by kernel_rfl) (.cons (by rfl) (.cons (by rfl) (.cons (by rfl) .nil))) (Nat.le_of_ble_eq_true (by kernel_rfl))
end Go.Proofs.Ytajdkbgbekdbmaa
