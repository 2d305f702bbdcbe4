/- Runs of Go code, as printed by a program: no condition beyond those that each states. -/
import Derived.Test.YtajdkbgbekdbmaaEO
import Derived.Test.YtajdkbgbekdbmaaChecked
import Derived.KernelRfl
namespace Go.Proofs.Ytajdkbgbekdbmaa
set_option linter.unusedVariables false
set_option linter.unusedSimpArgs false
set_option maxRecDepth 100000
open Go.RowKit E
set_option maxHeartbeats 2000000 in
theorem mnew_loI (n : Int) (h : n < 1) : FnOk Try.prog 8 ([iA n]) ([]) (.tup [.one (.val (.pointer none)), .one (.val (.int .i64 25))]) ([]) :=
  fn_run G0_ok Try.func8 (orc := ⟨[true, true], []⟩) (obl := [decide (n < (1 : Int)) = true,
      true = true,
      Value.pointer none = Value.pointer none,
      (25 : Int) = (25 : Int)]) (by kernel_rfl) (.cons (by exact decide_eq_true (by omega)) (.cons (by rfl) (.cons (by rfl) (.cons (by rfl) .nil)))) (Nat.le_of_ble_eq_true (by kernel_rfl))

set_option maxHeartbeats 2000000 in
theorem mnew_hiI (n : Int) (h : 4096 < n) : FnOk Try.prog 8 ([iA n]) ([]) (.tup [.one (.val (.pointer none)), .one (.val (.int .i64 25))]) ([]) :=
  fn_run G0_ok Try.func8 (orc := ⟨[false, true], []⟩) (obl := [decide (n < (1 : Int)) = false,
      decide (n > (4096 : Int)) = true,
      Value.pointer none = Value.pointer none,
      (25 : Int) = (25 : Int)]) (by kernel_rfl) (.cons (by exact decide_eq_false (by omega)) (.cons (by exact decide_eq_true (by omega)) (.cons (by rfl) (.cons (by rfl) .nil)))) (Nat.le_of_ble_eq_true (by kernel_rfl))

set_option maxHeartbeats 2000000 in
theorem mnew_okI (n : Nat) (h : 1 ≤ n) (h2 : n ≤ 4096) : FnOk Try.prog 8 ([iA n]) ([]) (.tup [.one (.ptr 0 0), .one (.val (.int .i64 0))]) ([.box 56 [.chn 1, .val (.bool false)], .chan n [] false]) :=
  fn_run G0_ok Try.func8 (orc := ⟨[false, false], []⟩) (obl := [decide ((↑n : Int) < (1 : Int)) = false,
      decide ((↑n : Int) > (4096 : Int)) = false,
      (0 : Int) ≤ (↑n : Int),
      (↑n : Int) ≤ (9223372036854775807 : Int),
      (↑(8 : Nat) : Int) * (↑n : Int) ≤ (281474976710544 : Int),
      (0 : Nat) = (0 : Nat),
      (0 : Int) = (0 : Int),
      false = false,
      Int.toNat (↑n : Int) = n,
      ([] : List Value) = ([] : List Value),
      false = false]) (by kernel_rfl) (.cons (by exact decide_eq_false (by omega)) (.cons (by exact decide_eq_false (by omega)) (.cons (by omega) (.cons (by omega) (.cons (by omega) (.cons (by rfl) (.cons (by rfl) (.cons (by rfl) (.cons (by rfl) (.cons (by rfl) (.cons (by rfl) .nil))))))))))) (Nat.le_of_ble_eq_true (by kernel_rfl))

set_option maxHeartbeats 2000000 in
theorem mopen_nilI  : FnOk Try.prog 20 ([.nv (.one (.val (.pointer none)))]) ([]) (bA false) ([]) :=
  fn_run G0_ok Try.func20 (orc := ⟨[false, false], []⟩) (obl := [false = false,
      false = false,
      false = false]) (by kernel_rfl) (.cons (by rfl) (.cons (by rfl) (.cons (by rfl) .nil))) (Nat.le_of_ble_eq_true (by kernel_rfl))

set_option maxHeartbeats 2000000 in
theorem mopen_tI (cap : Nat) (buf : List Value) (cl : Bool) : FnOk Try.prog 20 ([.nv (.one (.ptr 0 0))]) ([.box 56 [.chn 1, .val (.bool true)], .chan cap buf cl]) (bA false) ([.box 56 [.chn 1, .val (.bool true)], .chan cap buf cl]) :=
  fn_run G0_ok Try.func20 (orc := ⟨[true, true], []⟩) (obl := [true = true,
      true = true,
      (!true) = false,
      true = true,
      cap = cap,
      buf = buf,
      cl = cl]) (by kernel_rfl) (.cons (by rfl) (.cons (by rfl) (.cons (by rfl) (.cons (by rfl) (.cons (by rfl) (.cons (by rfl) (.cons (by rfl) .nil))))))) (Nat.le_of_ble_eq_true (by kernel_rfl))

set_option maxHeartbeats 2000000 in
theorem mopen_fI (cap : Nat) (buf : List Value) (cl : Bool) : FnOk Try.prog 20 ([.nv (.one (.ptr 0 0))]) ([.box 56 [.chn 1, .val (.bool false)], .chan cap buf cl]) (bA true) ([.box 56 [.chn 1, .val (.bool false)], .chan cap buf cl]) :=
  fn_run G0_ok Try.func20 (orc := ⟨[true, true], []⟩) (obl := [true = true,
      true = true,
      (!false) = true,
      false = false,
      cap = cap,
      buf = buf,
      cl = cl]) (by kernel_rfl) (.cons (by rfl) (.cons (by rfl) (.cons (by rfl) (.cons (by rfl) (.cons (by rfl) (.cons (by rfl) (.cons (by rfl) .nil))))))) (Nat.le_of_ble_eq_true (by kernel_rfl))

set_option maxHeartbeats 2000000 in
theorem mlenI (cap : Nat) (buf : List Value) (sh cl : Bool) : FnOk Try.prog 19 ([.nv (.one (.ptr 0 0))]) ([.box 56 [.chn 1, .val (.bool sh)], .chan cap buf cl]) (iA buf.length) ([.box 56 [.chn 1, .val (.bool sh)], .chan cap buf cl]) :=
  fn_run G0_ok Try.func19 (orc := ⟨[false], []⟩) (obl := [false = false,
      (↑(List.length buf) : Int) = (↑(List.length buf) : Int),
      sh = sh,
      cap = cap,
      buf = buf,
      cl = cl]) (by kernel_rfl) (.cons (by rfl) (.cons (by rfl) (.cons (by rfl) (.cons (by rfl) (.cons (by rfl) (.cons (by rfl) .nil)))))) (Nat.le_of_ble_eq_true (by kernel_rfl))

set_option maxHeartbeats 2000000 in
theorem mlen_nilI  : FnOk Try.prog 19 ([.nv (.one (.val (.pointer none)))]) ([]) (iA 0) ([]) :=
  fn_run G0_ok Try.func19 (orc := ⟨[true], []⟩) (obl := [true = true,
      (0 : Int) = (0 : Int)]) (by kernel_rfl) (.cons (by rfl) (.cons (by rfl) .nil)) (Nat.le_of_ble_eq_true (by kernel_rfl))

set_option maxHeartbeats 2000000 in
theorem mnew_loS (n : Int) (h : n < 1) : FnOk Try.prog 21 ([iA n]) ([]) (.tup [.one (.val (.pointer none)), .one (.val (.int .i64 25))]) ([]) :=
  fn_run G0_ok Try.func21 (orc := ⟨[true, true], []⟩) (obl := [decide (n < (1 : Int)) = true,
      true = true,
      Value.pointer none = Value.pointer none,
      (25 : Int) = (25 : Int)]) (by kernel_rfl) (.cons (by exact decide_eq_true (by omega)) (.cons (by rfl) (.cons (by rfl) (.cons (by rfl) .nil)))) (Nat.le_of_ble_eq_true (by kernel_rfl))

set_option maxHeartbeats 2000000 in
theorem mnew_hiS (n : Int) (h : 4096 < n) : FnOk Try.prog 21 ([iA n]) ([]) (.tup [.one (.val (.pointer none)), .one (.val (.int .i64 25))]) ([]) :=
  fn_run G0_ok Try.func21 (orc := ⟨[false, true], []⟩) (obl := [decide (n < (1 : Int)) = false,
      decide (n > (4096 : Int)) = true,
      Value.pointer none = Value.pointer none,
      (25 : Int) = (25 : Int)]) (by kernel_rfl) (.cons (by exact decide_eq_false (by omega)) (.cons (by exact decide_eq_true (by omega)) (.cons (by rfl) (.cons (by rfl) .nil)))) (Nat.le_of_ble_eq_true (by kernel_rfl))

set_option maxHeartbeats 2000000 in
theorem mnew_okS (n : Nat) (h : 1 ≤ n) (h2 : n ≤ 4096) : FnOk Try.prog 21 ([iA n]) ([]) (.tup [.one (.ptr 0 0), .one (.val (.int .i64 0))]) ([.box 59 [.chn 1, .val (.bool false)], .chan n [] false]) :=
  fn_run G0_ok Try.func21 (orc := ⟨[false, false], []⟩) (obl := [decide ((↑n : Int) < (1 : Int)) = false,
      decide ((↑n : Int) > (4096 : Int)) = false,
      (0 : Int) ≤ (↑n : Int),
      (↑n : Int) ≤ (9223372036854775807 : Int),
      (↑(16 : Nat) : Int) * (↑n : Int) ≤ (281474976710544 : Int),
      (0 : Nat) = (0 : Nat),
      (0 : Int) = (0 : Int),
      false = false,
      Int.toNat (↑n : Int) = n,
      ([] : List Value) = ([] : List Value),
      false = false]) (by kernel_rfl) (.cons (by exact decide_eq_false (by omega)) (.cons (by exact decide_eq_false (by omega)) (.cons (by omega) (.cons (by omega) (.cons (by omega) (.cons (by rfl) (.cons (by rfl) (.cons (by rfl) (.cons (by rfl) (.cons (by rfl) (.cons (by rfl) .nil))))))))))) (Nat.le_of_ble_eq_true (by kernel_rfl))

set_option maxHeartbeats 2000000 in
theorem mopen_nilS  : FnOk Try.prog 25 ([.nv (.one (.val (.pointer none)))]) ([]) (bA false) ([]) :=
  fn_run G0_ok Try.func25 (orc := ⟨[false, false], []⟩) (obl := [false = false,
      false = false,
      false = false]) (by kernel_rfl) (.cons (by rfl) (.cons (by rfl) (.cons (by rfl) .nil))) (Nat.le_of_ble_eq_true (by kernel_rfl))

set_option maxHeartbeats 2000000 in
theorem mopen_tS (cap : Nat) (buf : List Value) (cl : Bool) : FnOk Try.prog 25 ([.nv (.one (.ptr 0 0))]) ([.box 59 [.chn 1, .val (.bool true)], .chan cap buf cl]) (bA false) ([.box 59 [.chn 1, .val (.bool true)], .chan cap buf cl]) :=
  fn_run G0_ok Try.func25 (orc := ⟨[true, true], []⟩) (obl := [true = true,
      true = true,
      (!true) = false,
      true = true,
      cap = cap,
      buf = buf,
      cl = cl]) (by kernel_rfl) (.cons (by rfl) (.cons (by rfl) (.cons (by rfl) (.cons (by rfl) (.cons (by rfl) (.cons (by rfl) (.cons (by rfl) .nil))))))) (Nat.le_of_ble_eq_true (by kernel_rfl))

set_option maxHeartbeats 2000000 in
theorem mopen_fS (cap : Nat) (buf : List Value) (cl : Bool) : FnOk Try.prog 25 ([.nv (.one (.ptr 0 0))]) ([.box 59 [.chn 1, .val (.bool false)], .chan cap buf cl]) (bA true) ([.box 59 [.chn 1, .val (.bool false)], .chan cap buf cl]) :=
  fn_run G0_ok Try.func25 (orc := ⟨[true, true], []⟩) (obl := [true = true,
      true = true,
      (!false) = true,
      false = false,
      cap = cap,
      buf = buf,
      cl = cl]) (by kernel_rfl) (.cons (by rfl) (.cons (by rfl) (.cons (by rfl) (.cons (by rfl) (.cons (by rfl) (.cons (by rfl) (.cons (by rfl) .nil))))))) (Nat.le_of_ble_eq_true (by kernel_rfl))
end Go.Proofs.Ytajdkbgbekdbmaa
