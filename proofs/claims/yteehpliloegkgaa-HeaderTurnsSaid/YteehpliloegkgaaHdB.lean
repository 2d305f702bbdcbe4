/- Runs of Go code, as printed by a program: no condition beyond those that each states. -/
import Derived.Test.YteehpliloegkgaaHdA
import Derived.Test.YteehpliloegkgaaChecked
import Derived.KernelRfl
namespace Go.Proofs.Yteehpliloegkgaa
set_option linter.unusedVariables false
set_option linter.unusedSimpArgs false
set_option maxRecDepth 100000
open Go.RowKit E
set_option maxHeartbeats 2000000 in
theorem rg_s (a b : Int) (r : Int) (er : IntKind.wrap IntKind.u32 (Int.fdiv (IntKind.wrap IntKind.u32 (a + b)) (2 ^ 16) + bits BinOp.and IntKind.u32 (IntKind.wrap IntKind.u32 (a + b)) 65535) = r) : PureOk Try.prog 28 ([.nv (.one (.val (.int .u32 a))), .nv (.one (.val (.int .u32 b)))]) (.nv (.one (.val (.int .u32 r)))) :=
  pure_run GbB_ok Try.func28 (orc := ⟨[], []⟩) (obl := [(0 : Int) ≤ (16 : Int),
      IntKind.wrap IntKind.u32 (Int.fdiv (IntKind.wrap IntKind.u32 (a + b)) ((2 : Int) ^ (16 : Nat)) + bits BinOp.and IntKind.u32 (IntKind.wrap IntKind.u32 (a + b)) (65535 : Int)) = r]) (by kernel_rfl) (.cons (by trivial) (.cons (by assumption) .nil))

set_option maxHeartbeats 2000000 in
theorem rg_d1 (a b : Int) (ha : 0 ≤ a ∧ a ≤ 65535) (hb : 0 ≤ b ∧ b ≤ 65535) (h : a + b ≥ 65536) (e : IntKind.wrap IntKind.i64 (a + b) = a + b) : PureOk Try.prog 30 ([iA a, iA b]) (iA (a + b - 65535)) :=
  pure_run GbB_ok Try.func30 (orc := ⟨[true], []⟩) (obl := [decide (IntKind.wrap IntKind.i64 (a + b) ≥ (65536 : Int)) = true,
      IntKind.wrap IntKind.i64 (IntKind.wrap IntKind.i64 (a + b) - (65535 : Int)) = a + b - (65535 : Int)]) (by kernel_rfl) (.cons (by (rw [e]; exact decide_eq_true h)) (.cons (by (rw [e]; exact w64 (by omega) (by omega))) .nil))

set_option maxHeartbeats 2000000 in
theorem rg_d0 (a b : Int) (ha : 0 ≤ a ∧ a ≤ 65535) (hb : 0 ≤ b ∧ b ≤ 65535) (h : ¬ a + b ≥ 65536) (e : IntKind.wrap IntKind.i64 (a + b) = a + b) : PureOk Try.prog 30 ([iA a, iA b]) (iA (a + b)) :=
  pure_run GbB_ok Try.func30 (orc := ⟨[false], []⟩) (obl := [decide (IntKind.wrap IntKind.i64 (a + b) ≥ (65536 : Int)) = false,
      IntKind.wrap IntKind.i64 (a + b) = a + b]) (by kernel_rfl) (.cons (by (rw [e]; exact decide_eq_false h)) (.cons (by assumption) .nil))

set_option maxHeartbeats 2000000 in
theorem hf_f (s : ByteArray) (k : Nat) (r : Int) (hk : k + 1 < s.size) (hz : s.size ≤ 140737488355328) (er : IntKind.wrap IntKind.u16 (IntKind.wrap IntKind.u16 (IntKind.wrap IntKind.u16 (byteAt s k) * 2 ^ 8) + IntKind.wrap IntKind.u16 (byteAt s ((k : Int) + 1))) = r) (e1 : IntKind.wrap IntKind.i64 ((k : Int) + 1) = (k : Int) + 1) : PureOk Try.prog 23 ([sA s, iA k]) (.nv (.one (.val (.int .u16 r)))) :=
  pure_run GbB_ok Try.func23 (orc := ⟨[], []⟩) (obl := [(0 : Int) ≤ (↑k : Int),
      (↑k : Int) < (↑(ByteArray.size s) : Int),
      (0 : Int) ≤ (8 : Int),
      (0 : Int) ≤ IntKind.wrap IntKind.i64 ((↑k : Int) + (1 : Int)),
      IntKind.wrap IntKind.i64 ((↑k : Int) + (1 : Int)) < (↑(ByteArray.size s) : Int),
      IntKind.wrap IntKind.u16 (IntKind.wrap IntKind.u16 (IntKind.wrap IntKind.u16 (byteAt s (↑k : Int)) * (2 : Int) ^ (8 : Nat)) + IntKind.wrap IntKind.u16 (byteAt s (IntKind.wrap IntKind.i64 ((↑k : Int) + (1 : Int))))) = r]) (by kernel_rfl) (.cons (by omega) (.cons (by omega) (.cons (by trivial) (.cons (by (rw [e1]; omega)) (.cons (by (rw [e1]; omega)) (.cons (by (rw [e1]; omega)) .nil))))))
end Go.Proofs.Yteehpliloegkgaa
