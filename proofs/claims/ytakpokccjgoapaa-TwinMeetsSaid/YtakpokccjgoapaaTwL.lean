/- Runs of Go code, as printed by a program: no condition beyond those that each states. -/
import Derived.Test.YtakpokccjgoapaaTwK
import Derived.Test.YtakpokccjgoapaaChecked
import Derived.KernelRfl
namespace Go.Proofs.Ytakpokccjgoapaa
set_option linter.unusedVariables false
set_option linter.unusedSimpArgs false
set_option maxRecDepth 100000
open Go.RowKit E
set_option maxHeartbeats 2000000 in
theorem atI_n (n : Nat) (T : Tw Int) (c m i : Int) (h : i < 0) : FnOk Try.prog 30 ([.nv (.one (.ptr 0 0)), iA i]) (twRI n T c m) (.tup [.one (.val (.int .u64 0)), .one (.val (.int .i64 0)), .one (.val (.bool false))]) (twRI n T c m) :=
  fn_run Gt3_ok Try.func30 (orc := ⟨[true, true], []⟩) (obl := [decide (i < (0 : Int)) = true,
      true = true,
      (0 : Int) = (0 : Int),
      (0 : Int) = (0 : Int),
      false = false,
      c = c,
      m = m,
      n = n,
      ∀ (i : Nat), i < n → Tw.r T i = Tw.r T i ∧ Tw.c T i = Tw.c T i ∧ Tw.x T i = Tw.x T i ∧ True]) (by kernel_rfl) (.cons (by exact decide_eq_true (by omega)) (.cons (by rfl) (.cons (by rfl) (.cons (by rfl) (.cons (by rfl) (.cons (by rfl) (.cons (by rfl) (.cons (by rfl) (.cons (by (intro _ _; exact ⟨rfl, rfl, rfl, trivial⟩)) .nil))))))))) (Nat.le_of_ble_eq_true (by kernel_rfl))

set_option maxHeartbeats 2000000 in
theorem atI_o (n i : Nat) (T : Tw Int) (c m : Int) (h : n ≤ i) : FnOk Try.prog 30 ([.nv (.one (.ptr 0 0)), iA i]) (twRI n T c m) (.tup [.one (.val (.int .u64 0)), .one (.val (.int .i64 0)), .one (.val (.bool false))]) (twRI n T c m) :=
  fn_run Gt3_ok Try.func30 (orc := ⟨[false, true], []⟩) (obl := [decide ((↑i : Int) < (0 : Int)) = false,
      (0 : Nat) = (0 : Nat),
      c = c,
      m = m,
      n = n,
      ∀ (i : Nat), i < n → Tw.r T i = Tw.r (twI (gTi T)) i ∧ Tw.c T i = Tw.c (twI (gTi T)) i ∧ Tw.x T i = Tw.x (twI (gTi T)) i ∧ True,
      decide ((↑i : Int) ≥ (↑n : Int)) = true,
      (0 : Int) = (0 : Int),
      (0 : Int) = (0 : Int),
      false = false,
      c = c,
      m = m,
      n = n,
      ∀ (i : Nat), i < n → Tw.r T i = Tw.r T i ∧ Tw.c T i = Tw.c T i ∧ Tw.x T i = Tw.x T i ∧ True]) (by kernel_rfl) (.cons (by rfl) (.cons (by rfl) (.cons (by rfl) (.cons (by rfl) (.cons (by rfl) (.cons (by (intro _ _; exact ⟨rfl, rfl, rfl, trivial⟩)) (.cons (by exact decide_eq_true (by omega)) (.cons (by rfl) (.cons (by rfl) (.cons (by rfl) (.cons (by rfl) (.cons (by rfl) (.cons (by rfl) (.cons (by (intro _ _; exact ⟨rfl, rfl, rfl, trivial⟩)) .nil)))))))))))))) (Nat.le_of_ble_eq_true (by kernel_rfl))

set_option maxHeartbeats 2000000 in
theorem atI_i (n i : Nat) (T : Tw Int) (c m : Int) (h : i < n) : FnOk Try.prog 30 ([.nv (.one (.ptr 0 0)), iA i]) (twRI n T c m) (.tup [.one (.val (.int .u64 (T.r i))), .one (.val (.int .i64 (T.x i))), .one (.val (.bool true))]) (twRI n T c m) :=
  fn_run Gt3_ok Try.func30 (orc := ⟨[false, false], []⟩) (obl := [decide ((↑i : Int) < (0 : Int)) = false,
      (0 : Nat) = (0 : Nat),
      c = c,
      m = m,
      n = n,
      ∀ (i : Nat), i < n → Tw.r T i = Tw.r (twI (gTi T)) i ∧ Tw.c T i = Tw.c (twI (gTi T)) i ∧ Tw.x T i = Tw.x (twI (gTi T)) i ∧ True,
      decide ((↑i : Int) ≥ (↑n : Int)) = false,
      (0 : Int) ≤ (↑i : Int),
      (↑i : Int) < (↑n : Int),
      Int.toNat (↑i : Int) < n,
      (0 : Int) ≤ (↑i : Int),
      (↑i : Int) < (↑n : Int),
      Int.toNat (↑i : Int) < n,
      Tw.r T (Int.toNat (↑i : Int)) = Tw.r T i,
      Tw.x T (Int.toNat (↑i : Int)) = Tw.x T i,
      true = true,
      c = c,
      m = m,
      n = n,
      ∀ (i : Nat), i < n → Tw.r T i = Tw.r T i ∧ Tw.c T i = Tw.c T i ∧ Tw.x T i = Tw.x T i ∧ True]) (by kernel_rfl) (.cons (by rfl) (.cons (by rfl) (.cons (by rfl) (.cons (by rfl) (.cons (by rfl) (.cons (by (intro _ _; exact ⟨rfl, rfl, rfl, trivial⟩)) (.cons (by exact decide_eq_false (by omega)) (.cons (by omega) (.cons (by omega) (.cons (by assumption) (.cons (by omega) (.cons (by omega) (.cons (by assumption) (.cons (by rfl) (.cons (by rfl) (.cons (by rfl) (.cons (by rfl) (.cons (by rfl) (.cons (by rfl) (.cons (by (intro _ _; exact ⟨rfl, rfl, rfl, trivial⟩)) .nil)))))))))))))))))))) (Nat.le_of_ble_eq_true (by kernel_rfl))

set_option maxHeartbeats 2000000 in
theorem atI_z (i : Int) (h : i < 0) : FnOk Try.prog 30 ([nilA, iA i]) ([]) (.tup [.one (.val (.int .u64 0)), .one (.val (.int .i64 0)), .one (.val (.bool false))]) ([]) :=
  fn_run Gt3_ok Try.func30 (orc := ⟨[true, true], []⟩) (obl := [decide (i < (0 : Int)) = true,
      true = true,
      (0 : Int) = (0 : Int),
      (0 : Int) = (0 : Int),
      false = false]) (by kernel_rfl) (.cons (by exact decide_eq_true (by omega)) (.cons (by rfl) (.cons (by rfl) (.cons (by rfl) (.cons (by rfl) .nil))))) (Nat.le_of_ble_eq_true (by kernel_rfl))

set_option maxHeartbeats 2000000 in
theorem atI_z0 (i : Int) : FnOk Try.prog 30 ([nilA, iA 0]) ([]) (.tup [.one (.val (.int .u64 0)), .one (.val (.int .i64 0)), .one (.val (.bool false))]) ([]) :=
  fn_run Gt3_ok Try.func30 (orc := ⟨[false, true], []⟩) (obl := [decide ((0 : Int) < (0 : Int)) = false,
      Value.pointer none = Value.pointer none,
      decide ((0 : Int) ≥ (0 : Int)) = true,
      (0 : Int) = (0 : Int),
      (0 : Int) = (0 : Int),
      false = false]) (by kernel_rfl) (.cons (by rfl) (.cons (by rfl) (.cons (by rfl) (.cons (by rfl) (.cons (by rfl) (.cons (by rfl) .nil)))))) (Nat.le_of_ble_eq_true (by kernel_rfl))

set_option maxHeartbeats 2000000 in
theorem atS_n (n : Nat) (T : Tw ByteArray) (c m i : Int) (h : i < 0) : FnOk Try.prog 37 ([.nv (.one (.ptr 0 0)), iA i]) (twRS n T c m) (.tup [.one (.val (.int .u64 0)), .one (.val (.string ByteArray.empty)), .one (.val (.bool false))]) (twRS n T c m) :=
  fn_run Gt3_ok Try.func37 (orc := ⟨[true, true], []⟩) (obl := [decide (i < (0 : Int)) = true,
      true = true,
      (0 : Int) = (0 : Int),
      { data := #[] } = ByteArray.empty,
      false = false,
      c = c,
      m = m,
      n = n,
      ∀ (i : Nat), i < n → Tw.r T i = Tw.r T i ∧ Tw.c T i = Tw.c T i ∧ Tw.x T i = Tw.x T i ∧ True]) (by kernel_rfl) (.cons (by exact decide_eq_true (by omega)) (.cons (by rfl) (.cons (by rfl) (.cons (by rfl) (.cons (by rfl) (.cons (by rfl) (.cons (by rfl) (.cons (by rfl) (.cons (by (intro _ _; exact ⟨rfl, rfl, rfl, trivial⟩)) .nil))))))))) (Nat.le_of_ble_eq_true (by kernel_rfl))

set_option maxHeartbeats 2000000 in
theorem atS_o (n i : Nat) (T : Tw ByteArray) (c m : Int) (h : n ≤ i) : FnOk Try.prog 37 ([.nv (.one (.ptr 0 0)), iA i]) (twRS n T c m) (.tup [.one (.val (.int .u64 0)), .one (.val (.string ByteArray.empty)), .one (.val (.bool false))]) (twRS n T c m) :=
  fn_run Gt3_ok Try.func37 (orc := ⟨[false, true], []⟩) (obl := [decide ((↑i : Int) < (0 : Int)) = false,
      (0 : Nat) = (0 : Nat),
      c = c,
      m = m,
      n = n,
      ∀ (i : Nat), i < n → Tw.r T i = Tw.r (twS (gTs T)) i ∧ Tw.c T i = Tw.c (twS (gTs T)) i ∧ Tw.x T i = Tw.x (twS (gTs T)) i ∧ True,
      decide ((↑i : Int) ≥ (↑n : Int)) = true,
      (0 : Int) = (0 : Int),
      { data := #[] } = ByteArray.empty,
      false = false,
      c = c,
      m = m,
      n = n,
      ∀ (i : Nat), i < n → Tw.r T i = Tw.r T i ∧ Tw.c T i = Tw.c T i ∧ Tw.x T i = Tw.x T i ∧ True]) (by kernel_rfl) (.cons (by rfl) (.cons (by rfl) (.cons (by rfl) (.cons (by rfl) (.cons (by rfl) (.cons (by (intro _ _; exact ⟨rfl, rfl, rfl, trivial⟩)) (.cons (by exact decide_eq_true (by omega)) (.cons (by rfl) (.cons (by rfl) (.cons (by rfl) (.cons (by rfl) (.cons (by rfl) (.cons (by rfl) (.cons (by (intro _ _; exact ⟨rfl, rfl, rfl, trivial⟩)) .nil)))))))))))))) (Nat.le_of_ble_eq_true (by kernel_rfl))

set_option maxHeartbeats 2000000 in
theorem atS_i (n i : Nat) (T : Tw ByteArray) (c m : Int) (h : i < n) : FnOk Try.prog 37 ([.nv (.one (.ptr 0 0)), iA i]) (twRS n T c m) (.tup [.one (.val (.int .u64 (T.r i))), .one (.val (.string (T.x i))), .one (.val (.bool true))]) (twRS n T c m) :=
  fn_run Gt3_ok Try.func37 (orc := ⟨[false, false], []⟩) (obl := [decide ((↑i : Int) < (0 : Int)) = false,
      (0 : Nat) = (0 : Nat),
      c = c,
      m = m,
      n = n,
      ∀ (i : Nat), i < n → Tw.r T i = Tw.r (twS (gTs T)) i ∧ Tw.c T i = Tw.c (twS (gTs T)) i ∧ Tw.x T i = Tw.x (twS (gTs T)) i ∧ True,
      decide ((↑i : Int) ≥ (↑n : Int)) = false,
      (0 : Int) ≤ (↑i : Int),
      (↑i : Int) < (↑n : Int),
      Int.toNat (↑i : Int) < n,
      (0 : Int) ≤ (↑i : Int),
      (↑i : Int) < (↑n : Int),
      Int.toNat (↑i : Int) < n,
      Tw.r T (Int.toNat (↑i : Int)) = Tw.r T i,
      Tw.x T (Int.toNat (↑i : Int)) = Tw.x T i,
      true = true,
      c = c,
      m = m,
      n = n,
      ∀ (i : Nat), i < n → Tw.r T i = Tw.r T i ∧ Tw.c T i = Tw.c T i ∧ Tw.x T i = Tw.x T i ∧ True]) (by kernel_rfl) (.cons (by rfl) (.cons (by rfl) (.cons (by rfl) (.cons (by rfl) (.cons (by rfl) (.cons (by (intro _ _; exact ⟨rfl, rfl, rfl, trivial⟩)) (.cons (by exact decide_eq_false (by omega)) (.cons (by omega) (.cons (by omega) (.cons (by assumption) (.cons (by omega) (.cons (by omega) (.cons (by assumption) (.cons (by rfl) (.cons (by rfl) (.cons (by rfl) (.cons (by rfl) (.cons (by rfl) (.cons (by rfl) (.cons (by (intro _ _; exact ⟨rfl, rfl, rfl, trivial⟩)) .nil)))))))))))))))))))) (Nat.le_of_ble_eq_true (by kernel_rfl))

set_option maxHeartbeats 2000000 in
theorem atS_z (i : Int) (h : i < 0) : FnOk Try.prog 37 ([nilA, iA i]) ([]) (.tup [.one (.val (.int .u64 0)), .one (.val (.string ByteArray.empty)), .one (.val (.bool false))]) ([]) :=
  fn_run Gt3_ok Try.func37 (orc := ⟨[true, true], []⟩) (obl := [decide (i < (0 : Int)) = true,
      true = true,
      (0 : Int) = (0 : Int),
      { data := #[] } = ByteArray.empty,
      false = false]) (by kernel_rfl) (.cons (by exact decide_eq_true (by omega)) (.cons (by rfl) (.cons (by rfl) (.cons (by rfl) (.cons (by rfl) .nil))))) (Nat.le_of_ble_eq_true (by kernel_rfl))

set_option maxHeartbeats 2000000 in
theorem atS_z0 (i : Int) : FnOk Try.prog 37 ([nilA, iA 0]) ([]) (.tup [.one (.val (.int .u64 0)), .one (.val (.string ByteArray.empty)), .one (.val (.bool false))]) ([]) :=
  fn_run Gt3_ok Try.func37 (orc := ⟨[false, true], []⟩) (obl := [decide ((0 : Int) < (0 : Int)) = false,
      Value.pointer none = Value.pointer none,
      decide ((0 : Int) ≥ (0 : Int)) = true,
      (0 : Int) = (0 : Int),
      { data := #[] } = ByteArray.empty,
      false = false]) (by kernel_rfl) (.cons (by rfl) (.cons (by rfl) (.cons (by rfl) (.cons (by rfl) (.cons (by rfl) (.cons (by rfl) .nil)))))) (Nat.le_of_ble_eq_true (by kernel_rfl))
end Go.Proofs.Ytakpokccjgoapaa
