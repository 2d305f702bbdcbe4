/- Runs of Go code, as printed by a program: no condition beyond those that each states. -/
import Derived.Test.YtajdkbgbekdbmaaMlG
import Derived.Test.YtajdkbgbekdbmaaChecked
import Derived.KernelRfl
namespace Go.Proofs.Ytajdkbgbekdbmaa
set_option linter.unusedVariables false
set_option linter.unusedSimpArgs false
set_option maxRecDepth 100000
open Go.RowKit E
set_option maxHeartbeats 2000000 in
theorem lv35  : PureOk Try.prog 7 ([]) (bA true) :=
  pure_run Gml1_ok Try.func7 (orc := ⟨[false, false, false, false, false, false, true, true, true], []⟩) (obl := [(0 : Int) ≤ (1 : Int),
      (1 : Nat) ≤ Int.toNat (1 : Int),
      Int.toNat (1 : Int) ≤ (4096 : Nat),
      (1 : Int) = (↑(Int.toNat (1 : Int)) : Int),
      ((0 : Int) != (0 : Int)) = false,
      false = false,
      (0 : Nat) = (0 : Nat),
      (ByteArray.mk #[(97 : UInt8)]) = (ByteArray.mk #[(97 : UInt8)]),
      false = false,
      (1 : Nat) = (1 : Nat),
      ([] : List Value) = ([] : List Value),
      false = false,
      (!sndR false (1 : Nat) []) = false,
      (0 : Nat) = (0 : Nat),
      (ByteArray.mk #[(98 : UInt8)]) = (ByteArray.mk #[(98 : UInt8)]),
      false = false,
      (1 : Nat) = (1 : Nat),
      [Value.string (ByteArray.mk #[(97 : UInt8)])] = [Value.string (ByteArray.mk #[(97 : UInt8)])],
      false = false,
      sndR false (1 : Nat) [Value.string (ByteArray.mk #[(97 : UInt8)])] = false,
      (0 : Nat) = (0 : Nat),
      false = false,
      (1 : Nat) = (1 : Nat),
      [Value.string (ByteArray.mk #[(97 : UInt8)])] = [Value.string (ByteArray.mk #[(97 : UInt8)])],
      false = false,
      (!!false) = false,
      (0 : Nat) = (0 : Nat),
      true = true,
      (1 : Nat) = (1 : Nat),
      [Value.string (ByteArray.mk #[(97 : UInt8)])] = [Value.string (ByteArray.mk #[(97 : UInt8)])],
      true = true,
      (!true) = false,
      (0 : Nat) = (0 : Nat),
      true = true,
      (1 : Nat) = (1 : Nat),
      [Value.string (ByteArray.mk #[(97 : UInt8)])] = [Value.string (ByteArray.mk #[(97 : UInt8)])],
      true = true,
      (ByteArray.toList (ByteArray.mk #[(97 : UInt8)]) == ByteArray.toList (ByteArray.mk #[(97 : UInt8)])) = true,
      true = true,
      (0 : Nat) = (0 : Nat),
      (ByteArray.mk #[(99 : UInt8)]) = (ByteArray.mk #[(99 : UInt8)]),
      true = true,
      (1 : Nat) = (1 : Nat),
      ([] : List Value) = ([] : List Value),
      true = true,
      (!sndR true (1 : Nat) []) = true,
      (0 : Nat) = (0 : Nat),
      true = true,
      (1 : Nat) = (1 : Nat),
      ([] : List Value) = ([] : List Value),
      true = true,
      (!!true) = true]) (by kernel_rfl) (.cons (by trivial) (.cons (by trivial) (.cons (by trivial) (.cons (by rfl) (.cons (by rfl) (.cons (by rfl) (.cons (by rfl) (.cons (by rfl) (.cons (by rfl) (.cons (by rfl) (.cons (by rfl) (.cons (by rfl) (.cons (by rfl) (.cons (by rfl) (.cons (by rfl) (.cons (by rfl) (.cons (by rfl) (.cons (by rfl) (.cons (by rfl) (.cons (by rfl) (.cons (by rfl) (.cons (by rfl) (.cons (by rfl) (.cons (by rfl) (.cons (by rfl) (.cons (by rfl) (.cons (by rfl) (.cons (by rfl) (.cons (by rfl) (.cons (by rfl) (.cons (by rfl) (.cons (by rfl) (.cons (by rfl) (.cons (by rfl) (.cons (by rfl) (.cons (by rfl) (.cons (by rfl) (.cons (by decide +kernel) (.cons (by rfl) (.cons (by rfl) (.cons (by rfl) (.cons (by rfl) (.cons (by rfl) (.cons (by rfl) (.cons (by rfl) (.cons (by rfl) (.cons (by rfl) (.cons (by rfl) (.cons (by rfl) (.cons (by rfl) (.cons (by rfl) (.cons (by rfl) .nil))))))))))))))))))))))))))))))))))))))))))))))))))))

set_option maxHeartbeats 2000000 in
theorem some_nil0 (n : Int) (h : n ≤ 0) : FnOk Try.prog 15 ([pnil, iA n]) ([]) (.nv (.one (.own 0))) ([.row 3 1 0 (fun _ => [.val (.int .i64 0)])]) :=
  fn_run Gml1_ok Try.func15 (orc := ⟨[false], [unroll 2]⟩) (obl := [decide ((↑(0 : Nat) : Int) < n) = false,
      (0 : Nat) = (0 : Nat)]) (by kernel_rfl) (.cons (by exact decide_eq_false (by omega)) (.cons (by rfl) .nil)) (Nat.le_of_ble_eq_true (by kernel_rfl))

set_option maxHeartbeats 2000000 in
theorem some_nil1 (n : Int) (h : 0 < n) : FnOk Try.prog 15 ([pnil, iA n]) ([]) (.nv (.one (.own 0))) ([.row 3 1 0 (fun _ => [.val (.int .i64 0)])]) :=
  fn_run Gml1_ok Try.func15 (orc := ⟨[true, true], [unroll 2]⟩) (obl := [decide ((↑(0 : Nat) : Int) < n) = true,
      Value.pointer none = Value.pointer none,
      (!false) = true,
      (0 : Nat) = (0 : Nat)]) (by kernel_rfl) (.cons (by exact decide_eq_true (by omega)) (.cons (by rfl) (.cons (by rfl) (.cons (by rfl) .nil)))) (Nat.le_of_ble_eq_true (by kernel_rfl))

set_option maxHeartbeats 2000000 in
theorem first_nil  : FnOk Try.prog 10 ([.nv (.one (.own 0))]) ([.ro 1 2 (fun _ => [.val (.pointer none)])]) (.tup [.one (.val (.int .i64 0)), .one (.val (.int .i64 0)), .one (.val (.bool false))]) ([.gone]) :=
  fn_run Gml1_ok Try.func10 (orc := ⟨[true, false, true, false, false], [unroll 4]⟩) (obl := [decide ((0 : Int) < (↑(2 : Nat) : Int)) = true,
      (0 : Int) ≤ (0 : Int),
      (0 : Int) < (↑(2 : Nat) : Int),
      (0 : Nat) < (2 : Nat),
      Value.pointer none = Value.pointer none,
      false = false,
      decide (IntKind.wrap IntKind.i64 ((0 : Int) + (1 : Int)) < (↑(2 : Nat) : Int)) = true,
      (0 : Int) ≤ IntKind.wrap IntKind.i64 ((0 : Int) + (1 : Int)),
      IntKind.wrap IntKind.i64 ((0 : Int) + (1 : Int)) < (↑(2 : Nat) : Int),
      (1 : Nat) < (2 : Nat),
      Value.pointer none = Value.pointer none,
      false = false,
      decide (IntKind.wrap IntKind.i64 (IntKind.wrap IntKind.i64 ((0 : Int) + (1 : Int)) + (1 : Int)) < (↑(2 : Nat) : Int)) = false,
      (0 : Int) = (0 : Int),
      (0 : Int) = (0 : Int),
      false = false]) (by kernel_rfl) (.cons (by rfl) (.cons (by trivial) (.cons (by trivial) (.cons (by trivial) (.cons (by rfl) (.cons (by rfl) (.cons (by rfl) (.cons (by trivial) (.cons (by trivial) (.cons (by trivial) (.cons (by rfl) (.cons (by rfl) (.cons (by rfl) (.cons (by rfl) (.cons (by rfl) (.cons (by rfl) .nil)))))))))))))))) (Nat.le_of_ble_eq_true (by kernel_rfl))
end Go.Proofs.Ytajdkbgbekdbmaa
