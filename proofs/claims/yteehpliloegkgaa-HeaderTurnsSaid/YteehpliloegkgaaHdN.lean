/- Runs of Go code, as printed by a program: no condition beyond those that each states. -/
import Derived.Test.YteehpliloegkgaaHdM
import Derived.Test.YteehpliloegkgaaChecked
import Derived.KernelRfl
namespace Go.Proofs.Yteehpliloegkgaa
set_option linter.unusedVariables false
set_option linter.unusedSimpArgs false
set_option maxRecDepth 100000
open Go.RowKit E
attribute [local irreducible] ringZ inetZ halvL strL hfZ wdZ formZ updZ putStr badZ ByteArray.extract ByteArray.append ByteArray.size
set_option maxHeartbeats 2000000 in
theorem tw_f (n : Int) (r : ByteArray) (w : ∀ i, i < 1 → (flOf (litG 3 [.val (.int .i64 2), .val (.int .u64 (IntKind.wrap IntKind.u64 n)), .val (.string ⟨#[]⟩)]) i).wf) (er : putStr (flOf (litG 3 [.val (.int .i64 2), .val (.int .u64 (IntKind.wrap IntKind.u64 n)), .val (.string ⟨#[]⟩)])) 1 = r) : PureOk Try.prog 19 ([.nv (.one (.val (.int .i64 n)))]) (sA r) :=
  pure_run GhF_ok Try.func19 (orc := ⟨[], []⟩) (obl := [(1 : Nat) ≤ (1000 : Nat),
      ∀ (i : Nat), i < (1 : Nat) → Fl.wf (flOf (litG (3 : Nat) [At.val (Value.int IntKind.i64 (2 : Int)), At.val (Value.int IntKind.u64 (IntKind.wrap IntKind.u64 n)), At.val (Value.string (ByteArray.mk #[]))]) i),
      (1 : Nat) = (1 : Nat),
      ∀ (i : Nat), i < (1 : Nat) → AllT (leAts ([] ++ ([((0 : Nat), Bd.same (0 : Nat))] ++ []) ++ ([] ++ [] ++ ([] ++ []))) (1 : Nat) (litG (3 : Nat) [At.val (Value.int IntKind.i64 (2 : Int)), At.val (Value.int IntKind.u64 (IntKind.wrap IntKind.u64 n)), At.val (Value.string (ByteArray.mk #[]))] i) (gF (flOf (litG (3 : Nat) [At.val (Value.int IntKind.i64 (2 : Int)), At.val (Value.int IntKind.u64 (IntKind.wrap IntKind.u64 n)), At.val (Value.string (ByteArray.mk #[]))])) i)),
      putStr (flOf (litG (3 : Nat) [At.val (Value.int IntKind.i64 (2 : Int)), At.val (Value.int IntKind.u64 (IntKind.wrap IntKind.u64 n)), At.val (Value.string (ByteArray.mk #[]))])) (1 : Nat) = r]) (by kernel_rfl) (.cons (by trivial) (.cons (by assumption) (.cons (by rfl) (.cons (by (intro i h9; match i, h9 with | 0, _ => exact ⟨rfl, rfl, rfl, trivial⟩)) (.cons (by assumption) .nil)))))

set_option maxHeartbeats 2000000 in
theorem fo_f (n : Int) (r : ByteArray) (w : ∀ i, i < 1 → (flOf (litG 3 [.val (.int .i64 3), .val (.int .u64 (IntKind.wrap IntKind.u64 n)), .val (.string ⟨#[]⟩)]) i).wf) (er : putStr (flOf (litG 3 [.val (.int .i64 3), .val (.int .u64 (IntKind.wrap IntKind.u64 n)), .val (.string ⟨#[]⟩)])) 1 = r) : PureOk Try.prog 20 ([.nv (.one (.val (.int .u32 n)))]) (sA r) :=
  pure_run GhF_ok Try.func20 (orc := ⟨[], []⟩) (obl := [(1 : Nat) ≤ (1000 : Nat),
      ∀ (i : Nat), i < (1 : Nat) → Fl.wf (flOf (litG (3 : Nat) [At.val (Value.int IntKind.i64 (3 : Int)), At.val (Value.int IntKind.u64 (IntKind.wrap IntKind.u64 n)), At.val (Value.string (ByteArray.mk #[]))]) i),
      (1 : Nat) = (1 : Nat),
      ∀ (i : Nat), i < (1 : Nat) → AllT (leAts ([] ++ ([((0 : Nat), Bd.same (0 : Nat))] ++ []) ++ ([] ++ [] ++ ([] ++ []))) (1 : Nat) (litG (3 : Nat) [At.val (Value.int IntKind.i64 (3 : Int)), At.val (Value.int IntKind.u64 (IntKind.wrap IntKind.u64 n)), At.val (Value.string (ByteArray.mk #[]))] i) (gF (flOf (litG (3 : Nat) [At.val (Value.int IntKind.i64 (3 : Int)), At.val (Value.int IntKind.u64 (IntKind.wrap IntKind.u64 n)), At.val (Value.string (ByteArray.mk #[]))])) i)),
      putStr (flOf (litG (3 : Nat) [At.val (Value.int IntKind.i64 (3 : Int)), At.val (Value.int IntKind.u64 (IntKind.wrap IntKind.u64 n)), At.val (Value.string (ByteArray.mk #[]))])) (1 : Nat) = r]) (by kernel_rfl) (.cons (by trivial) (.cons (by assumption) (.cons (by rfl) (.cons (by (intro i h9; match i, h9 with | 0, _ => exact ⟨rfl, rfl, rfl, trivial⟩)) (.cons (by assumption) .nil)))))

set_option maxHeartbeats 2000000 in
theorem nu_4 (s : ByteArray) (x : Int) (hs : 28 ≤ s.size) (ee : IntKind.wrap IntKind.u64 (IntKind.wrap IntKind.u64 (IntKind.wrap IntKind.u64 (IntKind.wrap IntKind.u64 (0 * 256) + IntKind.wrap IntKind.u64 (byteAt s 4)) * 256) + IntKind.wrap IntKind.u64 (byteAt s 5)) = x) : PureOk Try.prog 26 ([sA s, iA 4, iA 2]) (.nv (.one (.val (.int .u64 x)))) :=
  pure_run GhF_ok Try.func26 (orc := ⟨[true, true, false], [unroll 3]⟩) (obl := [decide ((4 : Int) < IntKind.wrap IntKind.i64 ((4 : Int) + (2 : Int))) = true,
      (0 : Int) ≤ (4 : Int),
      (4 : Int) < (↑(ByteArray.size s) : Int),
      decide (IntKind.wrap IntKind.i64 ((4 : Int) + (1 : Int)) < IntKind.wrap IntKind.i64 ((4 : Int) + (2 : Int))) = true,
      (0 : Int) ≤ IntKind.wrap IntKind.i64 ((4 : Int) + (1 : Int)),
      IntKind.wrap IntKind.i64 ((4 : Int) + (1 : Int)) < (↑(ByteArray.size s) : Int),
      decide (IntKind.wrap IntKind.i64 (IntKind.wrap IntKind.i64 ((4 : Int) + (1 : Int)) + (1 : Int)) < IntKind.wrap IntKind.i64 ((4 : Int) + (2 : Int))) = false,
      IntKind.wrap IntKind.u64 (IntKind.wrap IntKind.u64 (IntKind.wrap IntKind.u64 (IntKind.wrap IntKind.u64 ((0 : Int) * (256 : Int)) + IntKind.wrap IntKind.u64 (byteAt s (4 : Int))) * (256 : Int)) + IntKind.wrap IntKind.u64 (byteAt s (IntKind.wrap IntKind.i64 ((4 : Int) + (1 : Int))))) = x]) (by kernel_rfl) (.cons (by rfl) (.cons (by trivial) (.cons (by omega) (.cons (by rfl) (.cons (by trivial) (.cons (by (simp only [show IntKind.wrap IntKind.i64 ((4 : Int) + 1) = 5 from rfl, show IntKind.wrap IntKind.i64 ((5 : Int) + 1) = 6 from rfl]; omega)) (.cons (by rfl) (.cons (by assumption) .nil))))))))

set_option maxHeartbeats 2000000 in
theorem nu_12 (s : ByteArray) (x : Int) (hs : 28 ≤ s.size) (ee : IntKind.wrap IntKind.u64 (IntKind.wrap IntKind.u64 (IntKind.wrap IntKind.u64 (IntKind.wrap IntKind.u64 (IntKind.wrap IntKind.u64 (IntKind.wrap IntKind.u64 (IntKind.wrap IntKind.u64 (IntKind.wrap IntKind.u64 (0 * 256) + IntKind.wrap IntKind.u64 (byteAt s 12)) * 256) + IntKind.wrap IntKind.u64 (byteAt s 13)) * 256) + IntKind.wrap IntKind.u64 (byteAt s 14)) * 256) + IntKind.wrap IntKind.u64 (byteAt s 15)) = x) : PureOk Try.prog 26 ([sA s, iA 12, iA 4]) (.nv (.one (.val (.int .u64 x)))) :=
  pure_run GhF_ok Try.func26 (orc := ⟨[true, true, true, true, false], [unroll 5]⟩) (obl := [decide ((12 : Int) < IntKind.wrap IntKind.i64 ((12 : Int) + (4 : Int))) = true,
      (0 : Int) ≤ (12 : Int),
      (12 : Int) < (↑(ByteArray.size s) : Int),
      decide (IntKind.wrap IntKind.i64 ((12 : Int) + (1 : Int)) < IntKind.wrap IntKind.i64 ((12 : Int) + (4 : Int))) = true,
      (0 : Int) ≤ IntKind.wrap IntKind.i64 ((12 : Int) + (1 : Int)),
      IntKind.wrap IntKind.i64 ((12 : Int) + (1 : Int)) < (↑(ByteArray.size s) : Int),
      decide (IntKind.wrap IntKind.i64 (IntKind.wrap IntKind.i64 ((12 : Int) + (1 : Int)) + (1 : Int)) < IntKind.wrap IntKind.i64 ((12 : Int) + (4 : Int))) = true,
      (0 : Int) ≤ IntKind.wrap IntKind.i64 (IntKind.wrap IntKind.i64 ((12 : Int) + (1 : Int)) + (1 : Int)),
      IntKind.wrap IntKind.i64 (IntKind.wrap IntKind.i64 ((12 : Int) + (1 : Int)) + (1 : Int)) < (↑(ByteArray.size s) : Int),
      decide (IntKind.wrap IntKind.i64 (IntKind.wrap IntKind.i64 (IntKind.wrap IntKind.i64 ((12 : Int) + (1 : Int)) + (1 : Int)) + (1 : Int)) < IntKind.wrap IntKind.i64 ((12 : Int) + (4 : Int))) = true,
      (0 : Int) ≤ IntKind.wrap IntKind.i64 (IntKind.wrap IntKind.i64 (IntKind.wrap IntKind.i64 ((12 : Int) + (1 : Int)) + (1 : Int)) + (1 : Int)),
      IntKind.wrap IntKind.i64 (IntKind.wrap IntKind.i64 (IntKind.wrap IntKind.i64 ((12 : Int) + (1 : Int)) + (1 : Int)) + (1 : Int)) < (↑(ByteArray.size s) : Int),
      decide (IntKind.wrap IntKind.i64 (IntKind.wrap IntKind.i64 (IntKind.wrap IntKind.i64 (IntKind.wrap IntKind.i64 ((12 : Int) + (1 : Int)) + (1 : Int)) + (1 : Int)) + (1 : Int)) < IntKind.wrap IntKind.i64 ((12 : Int) + (4 : Int))) = false,
      IntKind.wrap IntKind.u64 (IntKind.wrap IntKind.u64 (IntKind.wrap IntKind.u64 (IntKind.wrap IntKind.u64 (IntKind.wrap IntKind.u64 (IntKind.wrap IntKind.u64 (IntKind.wrap IntKind.u64 (IntKind.wrap IntKind.u64 ((0 : Int) * (256 : Int)) + IntKind.wrap IntKind.u64 (byteAt s (12 : Int))) * (256 : Int)) + IntKind.wrap IntKind.u64 (byteAt s (IntKind.wrap IntKind.i64 ((12 : Int) + (1 : Int))))) * (256 : Int)) + IntKind.wrap IntKind.u64 (byteAt s (IntKind.wrap IntKind.i64 (IntKind.wrap IntKind.i64 ((12 : Int) + (1 : Int)) + (1 : Int))))) * (256 : Int)) + IntKind.wrap IntKind.u64 (byteAt s (IntKind.wrap IntKind.i64 (IntKind.wrap IntKind.i64 (IntKind.wrap IntKind.i64 ((12 : Int) + (1 : Int)) + (1 : Int)) + (1 : Int))))) = x]) (by kernel_rfl) (.cons (by rfl) (.cons (by trivial) (.cons (by omega) (.cons (by rfl) (.cons (by trivial) (.cons (by (simp only [show IntKind.wrap IntKind.i64 ((12 : Int) + 1) = 13 from rfl, show IntKind.wrap IntKind.i64 ((13 : Int) + 1) = 14 from rfl, show IntKind.wrap IntKind.i64 ((14 : Int) + 1) = 15 from rfl, show IntKind.wrap IntKind.i64 ((15 : Int) + 1) = 16 from rfl]; omega)) (.cons (by rfl) (.cons (by trivial) (.cons (by (simp only [show IntKind.wrap IntKind.i64 ((12 : Int) + 1) = 13 from rfl, show IntKind.wrap IntKind.i64 ((13 : Int) + 1) = 14 from rfl, show IntKind.wrap IntKind.i64 ((14 : Int) + 1) = 15 from rfl, show IntKind.wrap IntKind.i64 ((15 : Int) + 1) = 16 from rfl]; omega)) (.cons (by rfl) (.cons (by trivial) (.cons (by (simp only [show IntKind.wrap IntKind.i64 ((12 : Int) + 1) = 13 from rfl, show IntKind.wrap IntKind.i64 ((13 : Int) + 1) = 14 from rfl, show IntKind.wrap IntKind.i64 ((14 : Int) + 1) = 15 from rfl, show IntKind.wrap IntKind.i64 ((15 : Int) + 1) = 16 from rfl]; omega)) (.cons (by rfl) (.cons (by assumption) .nil))))))))))))))

set_option maxHeartbeats 2000000 in
theorem nu_16 (s : ByteArray) (x : Int) (hs : 28 ≤ s.size) (ee : IntKind.wrap IntKind.u64 (IntKind.wrap IntKind.u64 (IntKind.wrap IntKind.u64 (IntKind.wrap IntKind.u64 (IntKind.wrap IntKind.u64 (IntKind.wrap IntKind.u64 (IntKind.wrap IntKind.u64 (IntKind.wrap IntKind.u64 (0 * 256) + IntKind.wrap IntKind.u64 (byteAt s 16)) * 256) + IntKind.wrap IntKind.u64 (byteAt s 17)) * 256) + IntKind.wrap IntKind.u64 (byteAt s 18)) * 256) + IntKind.wrap IntKind.u64 (byteAt s 19)) = x) : PureOk Try.prog 26 ([sA s, iA 16, iA 4]) (.nv (.one (.val (.int .u64 x)))) :=
  pure_run GhF_ok Try.func26 (orc := ⟨[true, true, true, true, false], [unroll 5]⟩) (obl := [decide ((16 : Int) < IntKind.wrap IntKind.i64 ((16 : Int) + (4 : Int))) = true,
      (0 : Int) ≤ (16 : Int),
      (16 : Int) < (↑(ByteArray.size s) : Int),
      decide (IntKind.wrap IntKind.i64 ((16 : Int) + (1 : Int)) < IntKind.wrap IntKind.i64 ((16 : Int) + (4 : Int))) = true,
      (0 : Int) ≤ IntKind.wrap IntKind.i64 ((16 : Int) + (1 : Int)),
      IntKind.wrap IntKind.i64 ((16 : Int) + (1 : Int)) < (↑(ByteArray.size s) : Int),
      decide (IntKind.wrap IntKind.i64 (IntKind.wrap IntKind.i64 ((16 : Int) + (1 : Int)) + (1 : Int)) < IntKind.wrap IntKind.i64 ((16 : Int) + (4 : Int))) = true,
      (0 : Int) ≤ IntKind.wrap IntKind.i64 (IntKind.wrap IntKind.i64 ((16 : Int) + (1 : Int)) + (1 : Int)),
      IntKind.wrap IntKind.i64 (IntKind.wrap IntKind.i64 ((16 : Int) + (1 : Int)) + (1 : Int)) < (↑(ByteArray.size s) : Int),
      decide (IntKind.wrap IntKind.i64 (IntKind.wrap IntKind.i64 (IntKind.wrap IntKind.i64 ((16 : Int) + (1 : Int)) + (1 : Int)) + (1 : Int)) < IntKind.wrap IntKind.i64 ((16 : Int) + (4 : Int))) = true,
      (0 : Int) ≤ IntKind.wrap IntKind.i64 (IntKind.wrap IntKind.i64 (IntKind.wrap IntKind.i64 ((16 : Int) + (1 : Int)) + (1 : Int)) + (1 : Int)),
      IntKind.wrap IntKind.i64 (IntKind.wrap IntKind.i64 (IntKind.wrap IntKind.i64 ((16 : Int) + (1 : Int)) + (1 : Int)) + (1 : Int)) < (↑(ByteArray.size s) : Int),
      decide (IntKind.wrap IntKind.i64 (IntKind.wrap IntKind.i64 (IntKind.wrap IntKind.i64 (IntKind.wrap IntKind.i64 ((16 : Int) + (1 : Int)) + (1 : Int)) + (1 : Int)) + (1 : Int)) < IntKind.wrap IntKind.i64 ((16 : Int) + (4 : Int))) = false,
      IntKind.wrap IntKind.u64 (IntKind.wrap IntKind.u64 (IntKind.wrap IntKind.u64 (IntKind.wrap IntKind.u64 (IntKind.wrap IntKind.u64 (IntKind.wrap IntKind.u64 (IntKind.wrap IntKind.u64 (IntKind.wrap IntKind.u64 ((0 : Int) * (256 : Int)) + IntKind.wrap IntKind.u64 (byteAt s (16 : Int))) * (256 : Int)) + IntKind.wrap IntKind.u64 (byteAt s (IntKind.wrap IntKind.i64 ((16 : Int) + (1 : Int))))) * (256 : Int)) + IntKind.wrap IntKind.u64 (byteAt s (IntKind.wrap IntKind.i64 (IntKind.wrap IntKind.i64 ((16 : Int) + (1 : Int)) + (1 : Int))))) * (256 : Int)) + IntKind.wrap IntKind.u64 (byteAt s (IntKind.wrap IntKind.i64 (IntKind.wrap IntKind.i64 (IntKind.wrap IntKind.i64 ((16 : Int) + (1 : Int)) + (1 : Int)) + (1 : Int))))) = x]) (by kernel_rfl) (.cons (by rfl) (.cons (by trivial) (.cons (by omega) (.cons (by rfl) (.cons (by trivial) (.cons (by (simp only [show IntKind.wrap IntKind.i64 ((16 : Int) + 1) = 17 from rfl, show IntKind.wrap IntKind.i64 ((17 : Int) + 1) = 18 from rfl, show IntKind.wrap IntKind.i64 ((18 : Int) + 1) = 19 from rfl, show IntKind.wrap IntKind.i64 ((19 : Int) + 1) = 20 from rfl]; omega)) (.cons (by rfl) (.cons (by trivial) (.cons (by (simp only [show IntKind.wrap IntKind.i64 ((16 : Int) + 1) = 17 from rfl, show IntKind.wrap IntKind.i64 ((17 : Int) + 1) = 18 from rfl, show IntKind.wrap IntKind.i64 ((18 : Int) + 1) = 19 from rfl, show IntKind.wrap IntKind.i64 ((19 : Int) + 1) = 20 from rfl]; omega)) (.cons (by rfl) (.cons (by trivial) (.cons (by (simp only [show IntKind.wrap IntKind.i64 ((16 : Int) + 1) = 17 from rfl, show IntKind.wrap IntKind.i64 ((17 : Int) + 1) = 18 from rfl, show IntKind.wrap IntKind.i64 ((18 : Int) + 1) = 19 from rfl, show IntKind.wrap IntKind.i64 ((19 : Int) + 1) = 20 from rfl]; omega)) (.cons (by rfl) (.cons (by assumption) .nil))))))))))))))

set_option maxHeartbeats 2000000 in
theorem nu_20 (s : ByteArray) (x : Int) (hs : 28 ≤ s.size) (ee : IntKind.wrap IntKind.u64 (IntKind.wrap IntKind.u64 (IntKind.wrap IntKind.u64 (IntKind.wrap IntKind.u64 (0 * 256) + IntKind.wrap IntKind.u64 (byteAt s 20)) * 256) + IntKind.wrap IntKind.u64 (byteAt s 21)) = x) : PureOk Try.prog 26 ([sA s, iA 20, iA 2]) (.nv (.one (.val (.int .u64 x)))) :=
  pure_run GhF_ok Try.func26 (orc := ⟨[true, true, false], [unroll 3]⟩) (obl := [decide ((20 : Int) < IntKind.wrap IntKind.i64 ((20 : Int) + (2 : Int))) = true,
      (0 : Int) ≤ (20 : Int),
      (20 : Int) < (↑(ByteArray.size s) : Int),
      decide (IntKind.wrap IntKind.i64 ((20 : Int) + (1 : Int)) < IntKind.wrap IntKind.i64 ((20 : Int) + (2 : Int))) = true,
      (0 : Int) ≤ IntKind.wrap IntKind.i64 ((20 : Int) + (1 : Int)),
      IntKind.wrap IntKind.i64 ((20 : Int) + (1 : Int)) < (↑(ByteArray.size s) : Int),
      decide (IntKind.wrap IntKind.i64 (IntKind.wrap IntKind.i64 ((20 : Int) + (1 : Int)) + (1 : Int)) < IntKind.wrap IntKind.i64 ((20 : Int) + (2 : Int))) = false,
      IntKind.wrap IntKind.u64 (IntKind.wrap IntKind.u64 (IntKind.wrap IntKind.u64 (IntKind.wrap IntKind.u64 ((0 : Int) * (256 : Int)) + IntKind.wrap IntKind.u64 (byteAt s (20 : Int))) * (256 : Int)) + IntKind.wrap IntKind.u64 (byteAt s (IntKind.wrap IntKind.i64 ((20 : Int) + (1 : Int))))) = x]) (by kernel_rfl) (.cons (by rfl) (.cons (by trivial) (.cons (by omega) (.cons (by rfl) (.cons (by trivial) (.cons (by (simp only [show IntKind.wrap IntKind.i64 ((20 : Int) + 1) = 21 from rfl, show IntKind.wrap IntKind.i64 ((21 : Int) + 1) = 22 from rfl]; omega)) (.cons (by rfl) (.cons (by assumption) .nil))))))))

set_option maxHeartbeats 2000000 in
theorem nu_22 (s : ByteArray) (x : Int) (hs : 28 ≤ s.size) (ee : IntKind.wrap IntKind.u64 (IntKind.wrap IntKind.u64 (IntKind.wrap IntKind.u64 (IntKind.wrap IntKind.u64 (0 * 256) + IntKind.wrap IntKind.u64 (byteAt s 22)) * 256) + IntKind.wrap IntKind.u64 (byteAt s 23)) = x) : PureOk Try.prog 26 ([sA s, iA 22, iA 2]) (.nv (.one (.val (.int .u64 x)))) :=
  pure_run GhF_ok Try.func26 (orc := ⟨[true, true, false], [unroll 3]⟩) (obl := [decide ((22 : Int) < IntKind.wrap IntKind.i64 ((22 : Int) + (2 : Int))) = true,
      (0 : Int) ≤ (22 : Int),
      (22 : Int) < (↑(ByteArray.size s) : Int),
      decide (IntKind.wrap IntKind.i64 ((22 : Int) + (1 : Int)) < IntKind.wrap IntKind.i64 ((22 : Int) + (2 : Int))) = true,
      (0 : Int) ≤ IntKind.wrap IntKind.i64 ((22 : Int) + (1 : Int)),
      IntKind.wrap IntKind.i64 ((22 : Int) + (1 : Int)) < (↑(ByteArray.size s) : Int),
      decide (IntKind.wrap IntKind.i64 (IntKind.wrap IntKind.i64 ((22 : Int) + (1 : Int)) + (1 : Int)) < IntKind.wrap IntKind.i64 ((22 : Int) + (2 : Int))) = false,
      IntKind.wrap IntKind.u64 (IntKind.wrap IntKind.u64 (IntKind.wrap IntKind.u64 (IntKind.wrap IntKind.u64 ((0 : Int) * (256 : Int)) + IntKind.wrap IntKind.u64 (byteAt s (22 : Int))) * (256 : Int)) + IntKind.wrap IntKind.u64 (byteAt s (IntKind.wrap IntKind.i64 ((22 : Int) + (1 : Int))))) = x]) (by kernel_rfl) (.cons (by rfl) (.cons (by trivial) (.cons (by omega) (.cons (by rfl) (.cons (by trivial) (.cons (by (simp only [show IntKind.wrap IntKind.i64 ((22 : Int) + 1) = 23 from rfl, show IntKind.wrap IntKind.i64 ((23 : Int) + 1) = 24 from rfl]; omega)) (.cons (by rfl) (.cons (by assumption) .nil))))))))
end Go.Proofs.Yteehpliloegkgaa
