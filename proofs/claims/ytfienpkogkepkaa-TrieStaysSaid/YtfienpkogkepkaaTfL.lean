/- Runs of Go code, as printed by a program: no condition beyond those that each states. -/
import Derived.Test.YtfienpkogkepkaaTfF
import Derived.Test.YtfienpkogkepkaaChecked
import Derived.KernelRfl
namespace Go.Proofs.Ytfienpkogkepkaa
set_option linter.unusedVariables false
set_option linter.unusedSimpArgs false
set_option maxRecDepth 100000
open Go.RowKit E
attribute [local irreducible] wkL apG TA bl8 bl32 wdN msk prP inP sdN prT covB comN comA layP layK LyOk FkOk rgt hasB subAt
set_option maxHeartbeats 2000000 in
theorem ffb_nil (k a n x c q1 q2 y : Int) (z : Bool) (A : Abs) (k1 k2 : Nat) : CodeOk Try.prog 2 (subC [true, true, true, true, true, false, true, true, true] (bodyOf Try.f9)) (mkSt 59 [(1, .nv (.one (.val (.int .u32 k)))), (4, .nv (.one (.ptr 2 0))), (7, .nv (.one (.ptr 3 0))), (8, .nv (.one (.val (.int .i64 (y))))), (9, bA z), (10, .nv (.one (.val (.pointer none))))] [.robox 57 [.root 1 0 true, .val (.int .i64 c)], .roabs A, .box 28 [.val (.int .u32 (0)), .val (.int .i64 (0))], .box 28 [.val (.int .u32 (q1)), .val (.int .i64 (q2))]]) (.exit 0) (mkSt 59 [(1, .nv (.one (.val (.int .u32 k)))), (4, .nv (.one (.ptr 2 0))), (7, .nv (.one (.ptr 3 0))), (8, .nv (.one (.val (.int .i64 (y))))), (9, bA z), (10, .nv (.one (.val (.pointer none))))] [.robox 57 [.root 1 0 true, .val (.int .i64 c)], .roabs A, .box 28 [.val (.int .u32 (0)), .val (.int .i64 (0))], .box 28 [.val (.int .u32 (q1)), .val (.int .i64 (q2))]]) :=
  code_run Gt3_ok (orc := ⟨[false, false], []⟩) (obl := [false = false,
      false = false,
      k = k,
      (0 : Nat) = (0 : Nat),
      (0 : Nat) = (0 : Nat),
      y = y,
      z = z,
      Value.pointer none = Value.pointer none,
      (0 : Nat) = (0 : Nat),
      c = c,
      A = A,
      (0 : Int) = (0 : Int),
      (0 : Int) = (0 : Int),
      q1 = q1,
      q2 = q2]) (by kernel_rfl) (.cons (by rfl) (.cons (by rfl) (.cons (by rfl) (.cons (by rfl) (.cons (by rfl) (.cons (by rfl) (.cons (by rfl) (.cons (by rfl) (.cons (by rfl) (.cons (by rfl) (.cons (by rfl) (.cons (by rfl) (.cons (by rfl) (.cons (by rfl) (.cons (by rfl) .nil))))))))))))))) (Nat.le_of_ble_eq_true (by kernel_rfl))

set_option maxHeartbeats 2000000 in
theorem ffb_nonn (k a n x c q1 q2 y : Int) (z : Bool) (A : Abs) (k1 k2 : Nat) (u : Bool) (ha : 0 ≤ k) (ha2 : k ≤ 4294967295) (ha3 : 0 ≤ a) (ha4 : a ≤ 4294967295) (hb : hasB a n k = false) : CodeOk Try.prog 5 (subC [true, true, true, true, true, false, true, true, true] (bodyOf Try.f9)) (mkSt 59 [(1, .nv (.one (.val (.int .u32 k)))), (4, .nv (.one (.ptr 2 0))), (7, .nv (.one (.ptr 3 0))), (8, .nv (.one (.val (.int .i64 (y))))), (9, bA z), (10, .nv (.one (.ptr 4 0)))] [.robox 57 [.root 1 0 true, .val (.int .i64 c)], .roabs A, .box 28 [.val (.int .u32 (0)), .val (.int .i64 (0))], .box 28 [.val (.int .u32 (q1)), .val (.int .i64 (q2))], .robox 55 [.val (.int .u32 a), .val (.int .i64 n), .val (.bool u), .val (.int .i64 x), .val (.pointer none), .val (.pointer none)]]) (.exit 0) (mkSt 59 [(1, .nv (.one (.val (.int .u32 k)))), (4, .nv (.one (.ptr 2 0))), (7, .nv (.one (.ptr 3 0))), (8, .nv (.one (.val (.int .i64 (y))))), (9, bA z), (10, .nv (.one (.ptr 4 0)))] [.robox 57 [.root 1 0 true, .val (.int .i64 c)], .roabs A, .box 28 [.val (.int .u32 (0)), .val (.int .i64 (0))], .box 28 [.val (.int .u32 (q1)), .val (.int .i64 (q2))], .robox 55 [.val (.int .u32 a), .val (.int .i64 n), .val (.bool u), .val (.int .i64 x), .val (.pointer none), .val (.pointer none)]]) :=
  code_run Gt3_ok (orc := ⟨[true, false], []⟩) (obl := [true = true,
      (0 : Int) ≤ a,
      a ≤ (4294967295 : Int),
      (0 : Int) ≤ k,
      k ≤ (4294967295 : Int),
      hasB a n k = false,
      k = k,
      (0 : Nat) = (0 : Nat),
      (0 : Nat) = (0 : Nat),
      y = y,
      z = z,
      (0 : Nat) = (0 : Nat),
      (0 : Nat) = (0 : Nat),
      c = c,
      A = A,
      (0 : Int) = (0 : Int),
      (0 : Int) = (0 : Int),
      q1 = q1,
      q2 = q2,
      a = a,
      n = n,
      u = u,
      x = x,
      Value.pointer none = Value.pointer none,
      Value.pointer none = Value.pointer none]) (by kernel_rfl) (.cons (by rfl) (.cons (by assumption) (.cons (by assumption) (.cons (by assumption) (.cons (by assumption) (.cons (by assumption) (.cons (by rfl) (.cons (by rfl) (.cons (by rfl) (.cons (by rfl) (.cons (by rfl) (.cons (by rfl) (.cons (by rfl) (.cons (by rfl) (.cons (by rfl) (.cons (by rfl) (.cons (by rfl) (.cons (by rfl) (.cons (by rfl) (.cons (by rfl) (.cons (by rfl) (.cons (by rfl) (.cons (by rfl) (.cons (by rfl) (.cons (by rfl) .nil))))))))))))))))))))))))) (Nat.le_of_ble_eq_true (by kernel_rfl))

set_option maxHeartbeats 2000000 in
theorem ffb_etnn (k a x c q1 q2 y : Int) (z : Bool) (A : Abs) (k1 k2 : Nat) (ha : 0 ≤ k) (ha2 : k ≤ 4294967295) (ha3 : 0 ≤ a) (ha4 : a ≤ 4294967295) (hb : hasB a 32 k = true) : CodeOk Try.prog 5 (subC [true, true, true, true, true, false, true, true, true] (bodyOf Try.f9)) (mkSt 59 [(1, .nv (.one (.val (.int .u32 k)))), (4, .nv (.one (.ptr 2 0))), (7, .nv (.one (.ptr 3 0))), (8, .nv (.one (.val (.int .i64 (y))))), (9, bA z), (10, .nv (.one (.ptr 4 0)))] [.robox 57 [.root 1 0 true, .val (.int .i64 c)], .roabs A, .box 28 [.val (.int .u32 (0)), .val (.int .i64 (0))], .box 28 [.val (.int .u32 (q1)), .val (.int .i64 (q2))], .robox 55 [.val (.int .u32 a), .val (.int .i64 32), .val (.bool true), .val (.int .i64 x), .val (.pointer none), .val (.pointer none)]]) (.exit 0) (mkSt 59 [(1, .nv (.one (.val (.int .u32 k)))), (4, .nv (.one (.ptr 2 0))), (7, .nv (.one (.ptr 3 0))), (8, .nv (.one (.val (.int .i64 (x))))), (9, bA true), (10, .nv (.one (.ptr 4 0)))] [.robox 57 [.root 1 0 true, .val (.int .i64 c)], .roabs A, .box 28 [.val (.int .u32 (0)), .val (.int .i64 (0))], .box 28 [.val (.int .u32 (a)), .val (.int .i64 (32))], .robox 55 [.val (.int .u32 a), .val (.int .i64 32), .val (.bool true), .val (.int .i64 x), .val (.pointer none), .val (.pointer none)]]) :=
  code_run Gt3_ok (orc := ⟨[true, true, true, true], []⟩) (obl := [true = true,
      (0 : Int) ≤ a,
      a ≤ (4294967295 : Int),
      (0 : Int) ≤ k,
      k ≤ (4294967295 : Int),
      hasB a (32 : Int) k = true,
      true = true,
      ((32 : Int) == (32 : Int)) = true,
      k = k,
      (0 : Nat) = (0 : Nat),
      (0 : Nat) = (0 : Nat),
      x = x,
      true = true,
      (0 : Nat) = (0 : Nat),
      (0 : Nat) = (0 : Nat),
      c = c,
      A = A,
      (0 : Int) = (0 : Int),
      (0 : Int) = (0 : Int),
      a = a,
      (32 : Int) = (32 : Int),
      a = a,
      (32 : Int) = (32 : Int),
      true = true,
      x = x,
      Value.pointer none = Value.pointer none,
      Value.pointer none = Value.pointer none]) (by kernel_rfl) (.cons (by rfl) (.cons (by assumption) (.cons (by assumption) (.cons (by assumption) (.cons (by assumption) (.cons (by assumption) (.cons (by rfl) (.cons (by rfl) (.cons (by rfl) (.cons (by rfl) (.cons (by rfl) (.cons (by rfl) (.cons (by rfl) (.cons (by rfl) (.cons (by rfl) (.cons (by rfl) (.cons (by rfl) (.cons (by rfl) (.cons (by rfl) (.cons (by rfl) (.cons (by rfl) (.cons (by rfl) (.cons (by rfl) (.cons (by rfl) (.cons (by rfl) (.cons (by rfl) (.cons (by rfl) .nil))))))))))))))))))))))))))) (Nat.le_of_ble_eq_true (by kernel_rfl))

set_option maxHeartbeats 2000000 in
theorem ffb_efnn (k a x c q1 q2 y : Int) (z : Bool) (A : Abs) (k1 k2 : Nat) (ha : 0 ≤ k) (ha2 : k ≤ 4294967295) (ha3 : 0 ≤ a) (ha4 : a ≤ 4294967295) (hb : hasB a 32 k = true) : CodeOk Try.prog 5 (subC [true, true, true, true, true, false, true, true, true] (bodyOf Try.f9)) (mkSt 59 [(1, .nv (.one (.val (.int .u32 k)))), (4, .nv (.one (.ptr 2 0))), (7, .nv (.one (.ptr 3 0))), (8, .nv (.one (.val (.int .i64 (y))))), (9, bA z), (10, .nv (.one (.ptr 4 0)))] [.robox 57 [.root 1 0 true, .val (.int .i64 c)], .roabs A, .box 28 [.val (.int .u32 (0)), .val (.int .i64 (0))], .box 28 [.val (.int .u32 (q1)), .val (.int .i64 (q2))], .robox 55 [.val (.int .u32 a), .val (.int .i64 32), .val (.bool false), .val (.int .i64 x), .val (.pointer none), .val (.pointer none)]]) (.exit 0) (mkSt 59 [(1, .nv (.one (.val (.int .u32 k)))), (4, .nv (.one (.ptr 2 0))), (7, .nv (.one (.ptr 3 0))), (8, .nv (.one (.val (.int .i64 (y))))), (9, bA z), (10, .nv (.one (.ptr 4 0)))] [.robox 57 [.root 1 0 true, .val (.int .i64 c)], .roabs A, .box 28 [.val (.int .u32 (0)), .val (.int .i64 (0))], .box 28 [.val (.int .u32 (q1)), .val (.int .i64 (q2))], .robox 55 [.val (.int .u32 a), .val (.int .i64 32), .val (.bool false), .val (.int .i64 x), .val (.pointer none), .val (.pointer none)]]) :=
  code_run Gt3_ok (orc := ⟨[true, true, false, true], []⟩) (obl := [true = true,
      (0 : Int) ≤ a,
      a ≤ (4294967295 : Int),
      (0 : Int) ≤ k,
      k ≤ (4294967295 : Int),
      hasB a (32 : Int) k = true,
      false = false,
      ((32 : Int) == (32 : Int)) = true,
      k = k,
      (0 : Nat) = (0 : Nat),
      (0 : Nat) = (0 : Nat),
      y = y,
      z = z,
      (0 : Nat) = (0 : Nat),
      (0 : Nat) = (0 : Nat),
      c = c,
      A = A,
      (0 : Int) = (0 : Int),
      (0 : Int) = (0 : Int),
      q1 = q1,
      q2 = q2,
      a = a,
      (32 : Int) = (32 : Int),
      false = false,
      x = x,
      Value.pointer none = Value.pointer none,
      Value.pointer none = Value.pointer none]) (by kernel_rfl) (.cons (by rfl) (.cons (by assumption) (.cons (by assumption) (.cons (by assumption) (.cons (by assumption) (.cons (by assumption) (.cons (by rfl) (.cons (by rfl) (.cons (by rfl) (.cons (by rfl) (.cons (by rfl) (.cons (by rfl) (.cons (by rfl) (.cons (by rfl) (.cons (by rfl) (.cons (by rfl) (.cons (by rfl) (.cons (by rfl) (.cons (by rfl) (.cons (by rfl) (.cons (by rfl) (.cons (by rfl) (.cons (by rfl) (.cons (by rfl) (.cons (by rfl) (.cons (by rfl) (.cons (by rfl) .nil))))))))))))))))))))))))))) (Nat.le_of_ble_eq_true (by kernel_rfl))

set_option maxHeartbeats 2000000 in
theorem ffb_nonk (k a n x c q1 q2 y : Int) (z : Bool) (A : Abs) (k1 k2 : Nat) (u : Bool) (ha : 0 ≤ k) (ha2 : k ≤ 4294967295) (ha3 : 0 ≤ a) (ha4 : a ≤ 4294967295) (hb : hasB a n k = false) : CodeOk Try.prog 5 (subC [true, true, true, true, true, false, true, true, true] (bodyOf Try.f9)) (mkSt 59 [(1, .nv (.one (.val (.int .u32 k)))), (4, .nv (.one (.ptr 2 0))), (7, .nv (.one (.ptr 3 0))), (8, .nv (.one (.val (.int .i64 (y))))), (9, bA z), (10, .nv (.one (.ptr 4 0)))] [.robox 57 [.root 1 0 true, .val (.int .i64 c)], .roabs A, .box 28 [.val (.int .u32 (0)), .val (.int .i64 (0))], .box 28 [.val (.int .u32 (q1)), .val (.int .i64 (q2))], .robox 55 [.val (.int .u32 a), .val (.int .i64 n), .val (.bool u), .val (.int .i64 x), .val (.pointer none), .root 1 k2 true]]) (.exit 0) (mkSt 59 [(1, .nv (.one (.val (.int .u32 k)))), (4, .nv (.one (.ptr 2 0))), (7, .nv (.one (.ptr 3 0))), (8, .nv (.one (.val (.int .i64 (y))))), (9, bA z), (10, .nv (.one (.ptr 4 0)))] [.robox 57 [.root 1 0 true, .val (.int .i64 c)], .roabs A, .box 28 [.val (.int .u32 (0)), .val (.int .i64 (0))], .box 28 [.val (.int .u32 (q1)), .val (.int .i64 (q2))], .robox 55 [.val (.int .u32 a), .val (.int .i64 n), .val (.bool u), .val (.int .i64 x), .val (.pointer none), .root 1 k2 true]]) :=
  code_run Gt3_ok (orc := ⟨[true, false], []⟩) (obl := [true = true,
      (0 : Int) ≤ a,
      a ≤ (4294967295 : Int),
      (0 : Int) ≤ k,
      k ≤ (4294967295 : Int),
      hasB a n k = false,
      k = k,
      (0 : Nat) = (0 : Nat),
      (0 : Nat) = (0 : Nat),
      y = y,
      z = z,
      (0 : Nat) = (0 : Nat),
      (0 : Nat) = (0 : Nat),
      c = c,
      A = A,
      (0 : Int) = (0 : Int),
      (0 : Int) = (0 : Int),
      q1 = q1,
      q2 = q2,
      a = a,
      n = n,
      u = u,
      x = x,
      Value.pointer none = Value.pointer none,
      k2 = k2]) (by kernel_rfl) (.cons (by rfl) (.cons (by assumption) (.cons (by assumption) (.cons (by assumption) (.cons (by assumption) (.cons (by assumption) (.cons (by rfl) (.cons (by rfl) (.cons (by rfl) (.cons (by rfl) (.cons (by rfl) (.cons (by rfl) (.cons (by rfl) (.cons (by rfl) (.cons (by rfl) (.cons (by rfl) (.cons (by rfl) (.cons (by rfl) (.cons (by rfl) (.cons (by rfl) (.cons (by rfl) (.cons (by rfl) (.cons (by rfl) (.cons (by rfl) (.cons (by rfl) .nil))))))))))))))))))))))))) (Nat.le_of_ble_eq_true (by kernel_rfl))

set_option maxHeartbeats 2000000 in
theorem ffb_etnk (k a x c q1 q2 y : Int) (z : Bool) (A : Abs) (k1 k2 : Nat) (ha : 0 ≤ k) (ha2 : k ≤ 4294967295) (ha3 : 0 ≤ a) (ha4 : a ≤ 4294967295) (hb : hasB a 32 k = true) : CodeOk Try.prog 5 (subC [true, true, true, true, true, false, true, true, true] (bodyOf Try.f9)) (mkSt 59 [(1, .nv (.one (.val (.int .u32 k)))), (4, .nv (.one (.ptr 2 0))), (7, .nv (.one (.ptr 3 0))), (8, .nv (.one (.val (.int .i64 (y))))), (9, bA z), (10, .nv (.one (.ptr 4 0)))] [.robox 57 [.root 1 0 true, .val (.int .i64 c)], .roabs A, .box 28 [.val (.int .u32 (0)), .val (.int .i64 (0))], .box 28 [.val (.int .u32 (q1)), .val (.int .i64 (q2))], .robox 55 [.val (.int .u32 a), .val (.int .i64 32), .val (.bool true), .val (.int .i64 x), .val (.pointer none), .root 1 k2 true]]) (.exit 0) (mkSt 59 [(1, .nv (.one (.val (.int .u32 k)))), (4, .nv (.one (.ptr 2 0))), (7, .nv (.one (.ptr 3 0))), (8, .nv (.one (.val (.int .i64 (x))))), (9, bA true), (10, .nv (.one (.ptr 4 0)))] [.robox 57 [.root 1 0 true, .val (.int .i64 c)], .roabs A, .box 28 [.val (.int .u32 (0)), .val (.int .i64 (0))], .box 28 [.val (.int .u32 (a)), .val (.int .i64 (32))], .robox 55 [.val (.int .u32 a), .val (.int .i64 32), .val (.bool true), .val (.int .i64 x), .val (.pointer none), .root 1 k2 true]]) :=
  code_run Gt3_ok (orc := ⟨[true, true, true, true], []⟩) (obl := [true = true,
      (0 : Int) ≤ a,
      a ≤ (4294967295 : Int),
      (0 : Int) ≤ k,
      k ≤ (4294967295 : Int),
      hasB a (32 : Int) k = true,
      true = true,
      ((32 : Int) == (32 : Int)) = true,
      k = k,
      (0 : Nat) = (0 : Nat),
      (0 : Nat) = (0 : Nat),
      x = x,
      true = true,
      (0 : Nat) = (0 : Nat),
      (0 : Nat) = (0 : Nat),
      c = c,
      A = A,
      (0 : Int) = (0 : Int),
      (0 : Int) = (0 : Int),
      a = a,
      (32 : Int) = (32 : Int),
      a = a,
      (32 : Int) = (32 : Int),
      true = true,
      x = x,
      Value.pointer none = Value.pointer none,
      k2 = k2]) (by kernel_rfl) (.cons (by rfl) (.cons (by assumption) (.cons (by assumption) (.cons (by assumption) (.cons (by assumption) (.cons (by assumption) (.cons (by rfl) (.cons (by rfl) (.cons (by rfl) (.cons (by rfl) (.cons (by rfl) (.cons (by rfl) (.cons (by rfl) (.cons (by rfl) (.cons (by rfl) (.cons (by rfl) (.cons (by rfl) (.cons (by rfl) (.cons (by rfl) (.cons (by rfl) (.cons (by rfl) (.cons (by rfl) (.cons (by rfl) (.cons (by rfl) (.cons (by rfl) (.cons (by rfl) (.cons (by rfl) .nil))))))))))))))))))))))))))) (Nat.le_of_ble_eq_true (by kernel_rfl))

set_option maxHeartbeats 2000000 in
theorem ffb_efnk (k a x c q1 q2 y : Int) (z : Bool) (A : Abs) (k1 k2 : Nat) (ha : 0 ≤ k) (ha2 : k ≤ 4294967295) (ha3 : 0 ≤ a) (ha4 : a ≤ 4294967295) (hb : hasB a 32 k = true) : CodeOk Try.prog 5 (subC [true, true, true, true, true, false, true, true, true] (bodyOf Try.f9)) (mkSt 59 [(1, .nv (.one (.val (.int .u32 k)))), (4, .nv (.one (.ptr 2 0))), (7, .nv (.one (.ptr 3 0))), (8, .nv (.one (.val (.int .i64 (y))))), (9, bA z), (10, .nv (.one (.ptr 4 0)))] [.robox 57 [.root 1 0 true, .val (.int .i64 c)], .roabs A, .box 28 [.val (.int .u32 (0)), .val (.int .i64 (0))], .box 28 [.val (.int .u32 (q1)), .val (.int .i64 (q2))], .robox 55 [.val (.int .u32 a), .val (.int .i64 32), .val (.bool false), .val (.int .i64 x), .val (.pointer none), .root 1 k2 true]]) (.exit 0) (mkSt 59 [(1, .nv (.one (.val (.int .u32 k)))), (4, .nv (.one (.ptr 2 0))), (7, .nv (.one (.ptr 3 0))), (8, .nv (.one (.val (.int .i64 (y))))), (9, bA z), (10, .nv (.one (.ptr 4 0)))] [.robox 57 [.root 1 0 true, .val (.int .i64 c)], .roabs A, .box 28 [.val (.int .u32 (0)), .val (.int .i64 (0))], .box 28 [.val (.int .u32 (q1)), .val (.int .i64 (q2))], .robox 55 [.val (.int .u32 a), .val (.int .i64 32), .val (.bool false), .val (.int .i64 x), .val (.pointer none), .root 1 k2 true]]) :=
  code_run Gt3_ok (orc := ⟨[true, true, false, true], []⟩) (obl := [true = true,
      (0 : Int) ≤ a,
      a ≤ (4294967295 : Int),
      (0 : Int) ≤ k,
      k ≤ (4294967295 : Int),
      hasB a (32 : Int) k = true,
      false = false,
      ((32 : Int) == (32 : Int)) = true,
      k = k,
      (0 : Nat) = (0 : Nat),
      (0 : Nat) = (0 : Nat),
      y = y,
      z = z,
      (0 : Nat) = (0 : Nat),
      (0 : Nat) = (0 : Nat),
      c = c,
      A = A,
      (0 : Int) = (0 : Int),
      (0 : Int) = (0 : Int),
      q1 = q1,
      q2 = q2,
      a = a,
      (32 : Int) = (32 : Int),
      false = false,
      x = x,
      Value.pointer none = Value.pointer none,
      k2 = k2]) (by kernel_rfl) (.cons (by rfl) (.cons (by assumption) (.cons (by assumption) (.cons (by assumption) (.cons (by assumption) (.cons (by assumption) (.cons (by rfl) (.cons (by rfl) (.cons (by rfl) (.cons (by rfl) (.cons (by rfl) (.cons (by rfl) (.cons (by rfl) (.cons (by rfl) (.cons (by rfl) (.cons (by rfl) (.cons (by rfl) (.cons (by rfl) (.cons (by rfl) (.cons (by rfl) (.cons (by rfl) (.cons (by rfl) (.cons (by rfl) (.cons (by rfl) (.cons (by rfl) (.cons (by rfl) (.cons (by rfl) .nil))))))))))))))))))))))))))) (Nat.le_of_ble_eq_true (by kernel_rfl))

set_option maxHeartbeats 2000000 in
theorem ffb_nokn (k a n x c q1 q2 y : Int) (z : Bool) (A : Abs) (k1 k2 : Nat) (u : Bool) (ha : 0 ≤ k) (ha2 : k ≤ 4294967295) (ha3 : 0 ≤ a) (ha4 : a ≤ 4294967295) (hb : hasB a n k = false) : CodeOk Try.prog 5 (subC [true, true, true, true, true, false, true, true, true] (bodyOf Try.f9)) (mkSt 59 [(1, .nv (.one (.val (.int .u32 k)))), (4, .nv (.one (.ptr 2 0))), (7, .nv (.one (.ptr 3 0))), (8, .nv (.one (.val (.int .i64 (y))))), (9, bA z), (10, .nv (.one (.ptr 4 0)))] [.robox 57 [.root 1 0 true, .val (.int .i64 c)], .roabs A, .box 28 [.val (.int .u32 (0)), .val (.int .i64 (0))], .box 28 [.val (.int .u32 (q1)), .val (.int .i64 (q2))], .robox 55 [.val (.int .u32 a), .val (.int .i64 n), .val (.bool u), .val (.int .i64 x), .root 1 k1 true, .val (.pointer none)]]) (.exit 0) (mkSt 59 [(1, .nv (.one (.val (.int .u32 k)))), (4, .nv (.one (.ptr 2 0))), (7, .nv (.one (.ptr 3 0))), (8, .nv (.one (.val (.int .i64 (y))))), (9, bA z), (10, .nv (.one (.ptr 4 0)))] [.robox 57 [.root 1 0 true, .val (.int .i64 c)], .roabs A, .box 28 [.val (.int .u32 (0)), .val (.int .i64 (0))], .box 28 [.val (.int .u32 (q1)), .val (.int .i64 (q2))], .robox 55 [.val (.int .u32 a), .val (.int .i64 n), .val (.bool u), .val (.int .i64 x), .root 1 k1 true, .val (.pointer none)]]) :=
  code_run Gt3_ok (orc := ⟨[true, false], []⟩) (obl := [true = true,
      (0 : Int) ≤ a,
      a ≤ (4294967295 : Int),
      (0 : Int) ≤ k,
      k ≤ (4294967295 : Int),
      hasB a n k = false,
      k = k,
      (0 : Nat) = (0 : Nat),
      (0 : Nat) = (0 : Nat),
      y = y,
      z = z,
      (0 : Nat) = (0 : Nat),
      (0 : Nat) = (0 : Nat),
      c = c,
      A = A,
      (0 : Int) = (0 : Int),
      (0 : Int) = (0 : Int),
      q1 = q1,
      q2 = q2,
      a = a,
      n = n,
      u = u,
      x = x,
      k1 = k1,
      Value.pointer none = Value.pointer none]) (by kernel_rfl) (.cons (by rfl) (.cons (by assumption) (.cons (by assumption) (.cons (by assumption) (.cons (by assumption) (.cons (by assumption) (.cons (by rfl) (.cons (by rfl) (.cons (by rfl) (.cons (by rfl) (.cons (by rfl) (.cons (by rfl) (.cons (by rfl) (.cons (by rfl) (.cons (by rfl) (.cons (by rfl) (.cons (by rfl) (.cons (by rfl) (.cons (by rfl) (.cons (by rfl) (.cons (by rfl) (.cons (by rfl) (.cons (by rfl) (.cons (by rfl) (.cons (by rfl) .nil))))))))))))))))))))))))) (Nat.le_of_ble_eq_true (by kernel_rfl))

set_option maxHeartbeats 2000000 in
theorem ffb_etkn (k a x c q1 q2 y : Int) (z : Bool) (A : Abs) (k1 k2 : Nat) (ha : 0 ≤ k) (ha2 : k ≤ 4294967295) (ha3 : 0 ≤ a) (ha4 : a ≤ 4294967295) (hb : hasB a 32 k = true) : CodeOk Try.prog 5 (subC [true, true, true, true, true, false, true, true, true] (bodyOf Try.f9)) (mkSt 59 [(1, .nv (.one (.val (.int .u32 k)))), (4, .nv (.one (.ptr 2 0))), (7, .nv (.one (.ptr 3 0))), (8, .nv (.one (.val (.int .i64 (y))))), (9, bA z), (10, .nv (.one (.ptr 4 0)))] [.robox 57 [.root 1 0 true, .val (.int .i64 c)], .roabs A, .box 28 [.val (.int .u32 (0)), .val (.int .i64 (0))], .box 28 [.val (.int .u32 (q1)), .val (.int .i64 (q2))], .robox 55 [.val (.int .u32 a), .val (.int .i64 32), .val (.bool true), .val (.int .i64 x), .root 1 k1 true, .val (.pointer none)]]) (.exit 0) (mkSt 59 [(1, .nv (.one (.val (.int .u32 k)))), (4, .nv (.one (.ptr 2 0))), (7, .nv (.one (.ptr 3 0))), (8, .nv (.one (.val (.int .i64 (x))))), (9, bA true), (10, .nv (.one (.ptr 4 0)))] [.robox 57 [.root 1 0 true, .val (.int .i64 c)], .roabs A, .box 28 [.val (.int .u32 (0)), .val (.int .i64 (0))], .box 28 [.val (.int .u32 (a)), .val (.int .i64 (32))], .robox 55 [.val (.int .u32 a), .val (.int .i64 32), .val (.bool true), .val (.int .i64 x), .root 1 k1 true, .val (.pointer none)]]) :=
  code_run Gt3_ok (orc := ⟨[true, true, true, true], []⟩) (obl := [true = true,
      (0 : Int) ≤ a,
      a ≤ (4294967295 : Int),
      (0 : Int) ≤ k,
      k ≤ (4294967295 : Int),
      hasB a (32 : Int) k = true,
      true = true,
      ((32 : Int) == (32 : Int)) = true,
      k = k,
      (0 : Nat) = (0 : Nat),
      (0 : Nat) = (0 : Nat),
      x = x,
      true = true,
      (0 : Nat) = (0 : Nat),
      (0 : Nat) = (0 : Nat),
      c = c,
      A = A,
      (0 : Int) = (0 : Int),
      (0 : Int) = (0 : Int),
      a = a,
      (32 : Int) = (32 : Int),
      a = a,
      (32 : Int) = (32 : Int),
      true = true,
      x = x,
      k1 = k1,
      Value.pointer none = Value.pointer none]) (by kernel_rfl) (.cons (by rfl) (.cons (by assumption) (.cons (by assumption) (.cons (by assumption) (.cons (by assumption) (.cons (by assumption) (.cons (by rfl) (.cons (by rfl) (.cons (by rfl) (.cons (by rfl) (.cons (by rfl) (.cons (by rfl) (.cons (by rfl) (.cons (by rfl) (.cons (by rfl) (.cons (by rfl) (.cons (by rfl) (.cons (by rfl) (.cons (by rfl) (.cons (by rfl) (.cons (by rfl) (.cons (by rfl) (.cons (by rfl) (.cons (by rfl) (.cons (by rfl) (.cons (by rfl) (.cons (by rfl) .nil))))))))))))))))))))))))))) (Nat.le_of_ble_eq_true (by kernel_rfl))

set_option maxHeartbeats 2000000 in
theorem ffb_efkn (k a x c q1 q2 y : Int) (z : Bool) (A : Abs) (k1 k2 : Nat) (ha : 0 ≤ k) (ha2 : k ≤ 4294967295) (ha3 : 0 ≤ a) (ha4 : a ≤ 4294967295) (hb : hasB a 32 k = true) : CodeOk Try.prog 5 (subC [true, true, true, true, true, false, true, true, true] (bodyOf Try.f9)) (mkSt 59 [(1, .nv (.one (.val (.int .u32 k)))), (4, .nv (.one (.ptr 2 0))), (7, .nv (.one (.ptr 3 0))), (8, .nv (.one (.val (.int .i64 (y))))), (9, bA z), (10, .nv (.one (.ptr 4 0)))] [.robox 57 [.root 1 0 true, .val (.int .i64 c)], .roabs A, .box 28 [.val (.int .u32 (0)), .val (.int .i64 (0))], .box 28 [.val (.int .u32 (q1)), .val (.int .i64 (q2))], .robox 55 [.val (.int .u32 a), .val (.int .i64 32), .val (.bool false), .val (.int .i64 x), .root 1 k1 true, .val (.pointer none)]]) (.exit 0) (mkSt 59 [(1, .nv (.one (.val (.int .u32 k)))), (4, .nv (.one (.ptr 2 0))), (7, .nv (.one (.ptr 3 0))), (8, .nv (.one (.val (.int .i64 (y))))), (9, bA z), (10, .nv (.one (.ptr 4 0)))] [.robox 57 [.root 1 0 true, .val (.int .i64 c)], .roabs A, .box 28 [.val (.int .u32 (0)), .val (.int .i64 (0))], .box 28 [.val (.int .u32 (q1)), .val (.int .i64 (q2))], .robox 55 [.val (.int .u32 a), .val (.int .i64 32), .val (.bool false), .val (.int .i64 x), .root 1 k1 true, .val (.pointer none)]]) :=
  code_run Gt3_ok (orc := ⟨[true, true, false, true], []⟩) (obl := [true = true,
      (0 : Int) ≤ a,
      a ≤ (4294967295 : Int),
      (0 : Int) ≤ k,
      k ≤ (4294967295 : Int),
      hasB a (32 : Int) k = true,
      false = false,
      ((32 : Int) == (32 : Int)) = true,
      k = k,
      (0 : Nat) = (0 : Nat),
      (0 : Nat) = (0 : Nat),
      y = y,
      z = z,
      (0 : Nat) = (0 : Nat),
      (0 : Nat) = (0 : Nat),
      c = c,
      A = A,
      (0 : Int) = (0 : Int),
      (0 : Int) = (0 : Int),
      q1 = q1,
      q2 = q2,
      a = a,
      (32 : Int) = (32 : Int),
      false = false,
      x = x,
      k1 = k1,
      Value.pointer none = Value.pointer none]) (by kernel_rfl) (.cons (by rfl) (.cons (by assumption) (.cons (by assumption) (.cons (by assumption) (.cons (by assumption) (.cons (by assumption) (.cons (by rfl) (.cons (by rfl) (.cons (by rfl) (.cons (by rfl) (.cons (by rfl) (.cons (by rfl) (.cons (by rfl) (.cons (by rfl) (.cons (by rfl) (.cons (by rfl) (.cons (by rfl) (.cons (by rfl) (.cons (by rfl) (.cons (by rfl) (.cons (by rfl) (.cons (by rfl) (.cons (by rfl) (.cons (by rfl) (.cons (by rfl) (.cons (by rfl) (.cons (by rfl) .nil))))))))))))))))))))))))))) (Nat.le_of_ble_eq_true (by kernel_rfl))

set_option maxHeartbeats 2000000 in
theorem ffb_nokk (k a n x c q1 q2 y : Int) (z : Bool) (A : Abs) (k1 k2 : Nat) (u : Bool) (ha : 0 ≤ k) (ha2 : k ≤ 4294967295) (ha3 : 0 ≤ a) (ha4 : a ≤ 4294967295) (hb : hasB a n k = false) : CodeOk Try.prog 5 (subC [true, true, true, true, true, false, true, true, true] (bodyOf Try.f9)) (mkSt 59 [(1, .nv (.one (.val (.int .u32 k)))), (4, .nv (.one (.ptr 2 0))), (7, .nv (.one (.ptr 3 0))), (8, .nv (.one (.val (.int .i64 (y))))), (9, bA z), (10, .nv (.one (.ptr 4 0)))] [.robox 57 [.root 1 0 true, .val (.int .i64 c)], .roabs A, .box 28 [.val (.int .u32 (0)), .val (.int .i64 (0))], .box 28 [.val (.int .u32 (q1)), .val (.int .i64 (q2))], .robox 55 [.val (.int .u32 a), .val (.int .i64 n), .val (.bool u), .val (.int .i64 x), .root 1 k1 true, .root 1 k2 true]]) (.exit 0) (mkSt 59 [(1, .nv (.one (.val (.int .u32 k)))), (4, .nv (.one (.ptr 2 0))), (7, .nv (.one (.ptr 3 0))), (8, .nv (.one (.val (.int .i64 (y))))), (9, bA z), (10, .nv (.one (.ptr 4 0)))] [.robox 57 [.root 1 0 true, .val (.int .i64 c)], .roabs A, .box 28 [.val (.int .u32 (0)), .val (.int .i64 (0))], .box 28 [.val (.int .u32 (q1)), .val (.int .i64 (q2))], .robox 55 [.val (.int .u32 a), .val (.int .i64 n), .val (.bool u), .val (.int .i64 x), .root 1 k1 true, .root 1 k2 true]]) :=
  code_run Gt3_ok (orc := ⟨[true, false], []⟩) (obl := [true = true,
      (0 : Int) ≤ a,
      a ≤ (4294967295 : Int),
      (0 : Int) ≤ k,
      k ≤ (4294967295 : Int),
      hasB a n k = false,
      k = k,
      (0 : Nat) = (0 : Nat),
      (0 : Nat) = (0 : Nat),
      y = y,
      z = z,
      (0 : Nat) = (0 : Nat),
      (0 : Nat) = (0 : Nat),
      c = c,
      A = A,
      (0 : Int) = (0 : Int),
      (0 : Int) = (0 : Int),
      q1 = q1,
      q2 = q2,
      a = a,
      n = n,
      u = u,
      x = x,
      k1 = k1,
      k2 = k2]) (by kernel_rfl) (.cons (by rfl) (.cons (by assumption) (.cons (by assumption) (.cons (by assumption) (.cons (by assumption) (.cons (by assumption) (.cons (by rfl) (.cons (by rfl) (.cons (by rfl) (.cons (by rfl) (.cons (by rfl) (.cons (by rfl) (.cons (by rfl) (.cons (by rfl) (.cons (by rfl) (.cons (by rfl) (.cons (by rfl) (.cons (by rfl) (.cons (by rfl) (.cons (by rfl) (.cons (by rfl) (.cons (by rfl) (.cons (by rfl) (.cons (by rfl) (.cons (by rfl) .nil))))))))))))))))))))))))) (Nat.le_of_ble_eq_true (by kernel_rfl))

set_option maxHeartbeats 2000000 in
theorem ffb_etkk (k a x c q1 q2 y : Int) (z : Bool) (A : Abs) (k1 k2 : Nat) (ha : 0 ≤ k) (ha2 : k ≤ 4294967295) (ha3 : 0 ≤ a) (ha4 : a ≤ 4294967295) (hb : hasB a 32 k = true) : CodeOk Try.prog 5 (subC [true, true, true, true, true, false, true, true, true] (bodyOf Try.f9)) (mkSt 59 [(1, .nv (.one (.val (.int .u32 k)))), (4, .nv (.one (.ptr 2 0))), (7, .nv (.one (.ptr 3 0))), (8, .nv (.one (.val (.int .i64 (y))))), (9, bA z), (10, .nv (.one (.ptr 4 0)))] [.robox 57 [.root 1 0 true, .val (.int .i64 c)], .roabs A, .box 28 [.val (.int .u32 (0)), .val (.int .i64 (0))], .box 28 [.val (.int .u32 (q1)), .val (.int .i64 (q2))], .robox 55 [.val (.int .u32 a), .val (.int .i64 32), .val (.bool true), .val (.int .i64 x), .root 1 k1 true, .root 1 k2 true]]) (.exit 0) (mkSt 59 [(1, .nv (.one (.val (.int .u32 k)))), (4, .nv (.one (.ptr 2 0))), (7, .nv (.one (.ptr 3 0))), (8, .nv (.one (.val (.int .i64 (x))))), (9, bA true), (10, .nv (.one (.ptr 4 0)))] [.robox 57 [.root 1 0 true, .val (.int .i64 c)], .roabs A, .box 28 [.val (.int .u32 (0)), .val (.int .i64 (0))], .box 28 [.val (.int .u32 (a)), .val (.int .i64 (32))], .robox 55 [.val (.int .u32 a), .val (.int .i64 32), .val (.bool true), .val (.int .i64 x), .root 1 k1 true, .root 1 k2 true]]) :=
  code_run Gt3_ok (orc := ⟨[true, true, true, true], []⟩) (obl := [true = true,
      (0 : Int) ≤ a,
      a ≤ (4294967295 : Int),
      (0 : Int) ≤ k,
      k ≤ (4294967295 : Int),
      hasB a (32 : Int) k = true,
      true = true,
      ((32 : Int) == (32 : Int)) = true,
      k = k,
      (0 : Nat) = (0 : Nat),
      (0 : Nat) = (0 : Nat),
      x = x,
      true = true,
      (0 : Nat) = (0 : Nat),
      (0 : Nat) = (0 : Nat),
      c = c,
      A = A,
      (0 : Int) = (0 : Int),
      (0 : Int) = (0 : Int),
      a = a,
      (32 : Int) = (32 : Int),
      a = a,
      (32 : Int) = (32 : Int),
      true = true,
      x = x,
      k1 = k1,
      k2 = k2]) (by kernel_rfl) (.cons (by rfl) (.cons (by assumption) (.cons (by assumption) (.cons (by assumption) (.cons (by assumption) (.cons (by assumption) (.cons (by rfl) (.cons (by rfl) (.cons (by rfl) (.cons (by rfl) (.cons (by rfl) (.cons (by rfl) (.cons (by rfl) (.cons (by rfl) (.cons (by rfl) (.cons (by rfl) (.cons (by rfl) (.cons (by rfl) (.cons (by rfl) (.cons (by rfl) (.cons (by rfl) (.cons (by rfl) (.cons (by rfl) (.cons (by rfl) (.cons (by rfl) (.cons (by rfl) (.cons (by rfl) .nil))))))))))))))))))))))))))) (Nat.le_of_ble_eq_true (by kernel_rfl))

set_option maxHeartbeats 2000000 in
theorem ffb_efkk (k a x c q1 q2 y : Int) (z : Bool) (A : Abs) (k1 k2 : Nat) (ha : 0 ≤ k) (ha2 : k ≤ 4294967295) (ha3 : 0 ≤ a) (ha4 : a ≤ 4294967295) (hb : hasB a 32 k = true) : CodeOk Try.prog 5 (subC [true, true, true, true, true, false, true, true, true] (bodyOf Try.f9)) (mkSt 59 [(1, .nv (.one (.val (.int .u32 k)))), (4, .nv (.one (.ptr 2 0))), (7, .nv (.one (.ptr 3 0))), (8, .nv (.one (.val (.int .i64 (y))))), (9, bA z), (10, .nv (.one (.ptr 4 0)))] [.robox 57 [.root 1 0 true, .val (.int .i64 c)], .roabs A, .box 28 [.val (.int .u32 (0)), .val (.int .i64 (0))], .box 28 [.val (.int .u32 (q1)), .val (.int .i64 (q2))], .robox 55 [.val (.int .u32 a), .val (.int .i64 32), .val (.bool false), .val (.int .i64 x), .root 1 k1 true, .root 1 k2 true]]) (.exit 0) (mkSt 59 [(1, .nv (.one (.val (.int .u32 k)))), (4, .nv (.one (.ptr 2 0))), (7, .nv (.one (.ptr 3 0))), (8, .nv (.one (.val (.int .i64 (y))))), (9, bA z), (10, .nv (.one (.ptr 4 0)))] [.robox 57 [.root 1 0 true, .val (.int .i64 c)], .roabs A, .box 28 [.val (.int .u32 (0)), .val (.int .i64 (0))], .box 28 [.val (.int .u32 (q1)), .val (.int .i64 (q2))], .robox 55 [.val (.int .u32 a), .val (.int .i64 32), .val (.bool false), .val (.int .i64 x), .root 1 k1 true, .root 1 k2 true]]) :=
  code_run Gt3_ok (orc := ⟨[true, true, false, true], []⟩) (obl := [true = true,
      (0 : Int) ≤ a,
      a ≤ (4294967295 : Int),
      (0 : Int) ≤ k,
      k ≤ (4294967295 : Int),
      hasB a (32 : Int) k = true,
      false = false,
      ((32 : Int) == (32 : Int)) = true,
      k = k,
      (0 : Nat) = (0 : Nat),
      (0 : Nat) = (0 : Nat),
      y = y,
      z = z,
      (0 : Nat) = (0 : Nat),
      (0 : Nat) = (0 : Nat),
      c = c,
      A = A,
      (0 : Int) = (0 : Int),
      (0 : Int) = (0 : Int),
      q1 = q1,
      q2 = q2,
      a = a,
      (32 : Int) = (32 : Int),
      false = false,
      x = x,
      k1 = k1,
      k2 = k2]) (by kernel_rfl) (.cons (by rfl) (.cons (by assumption) (.cons (by assumption) (.cons (by assumption) (.cons (by assumption) (.cons (by assumption) (.cons (by rfl) (.cons (by rfl) (.cons (by rfl) (.cons (by rfl) (.cons (by rfl) (.cons (by rfl) (.cons (by rfl) (.cons (by rfl) (.cons (by rfl) (.cons (by rfl) (.cons (by rfl) (.cons (by rfl) (.cons (by rfl) (.cons (by rfl) (.cons (by rfl) (.cons (by rfl) (.cons (by rfl) (.cons (by rfl) (.cons (by rfl) (.cons (by rfl) (.cons (by rfl) .nil))))))))))))))))))))))))))) (Nat.le_of_ble_eq_true (by kernel_rfl))
end Go.Proofs.Ytfienpkogkepkaa

/- Runs of Go code, as printed by a program: no condition beyond those that each states. -/
namespace Go.Proofs.Ytfienpkogkepkaa
set_option linter.unusedVariables false
set_option linter.unusedSimpArgs false
set_option maxRecDepth 100000
open Go.RowKit E
attribute [local irreducible] wkL apG TA bl8 bl32 wdN msk prP inP sdN prT covB comN comA layP layK LyOk FkOk rgt hasB subAt
set_option maxHeartbeats 2000000 in
theorem ffb_0tnn (k a n x c q1 q2 y : Int) (z : Bool) (A : Abs) (k1 k2 : Nat) (ha : 0 ≤ k) (ha2 : k ≤ 4294967295) (ha3 : 0 ≤ a) (ha4 : a ≤ 4294967295) (hn0 : 0 ≤ n) (hn31 : n ≤ 31) (hn2 : n ≠ 32) (hb : hasB a n k = true) (hs : sdN k n = 0) : CodeOk Try.prog 5 (subC [true, true, true, true, true, false, true, true, true] (bodyOf Try.f9)) (mkSt 59 [(1, .nv (.one (.val (.int .u32 k)))), (4, .nv (.one (.ptr 2 0))), (7, .nv (.one (.ptr 3 0))), (8, .nv (.one (.val (.int .i64 (y))))), (9, bA z), (10, .nv (.one (.ptr 4 0)))] [.robox 57 [.root 1 0 true, .val (.int .i64 c)], .roabs A, .box 28 [.val (.int .u32 (0)), .val (.int .i64 (0))], .box 28 [.val (.int .u32 (q1)), .val (.int .i64 (q2))], .robox 55 [.val (.int .u32 a), .val (.int .i64 n), .val (.bool true), .val (.int .i64 x), .val (.pointer none), .val (.pointer none)]]) .normal (mkSt 59 [(1, .nv (.one (.val (.int .u32 k)))), (4, .nv (.one (.ptr 2 0))), (7, .nv (.one (.ptr 3 0))), (8, .nv (.one (.val (.int .i64 (x))))), (9, bA true), (10, .nv (.one (.val (.pointer none))))] [.robox 57 [.root 1 0 true, .val (.int .i64 c)], .roabs A, .box 28 [.val (.int .u32 (0)), .val (.int .i64 (0))], .box 28 [.val (.int .u32 (a)), .val (.int .i64 (n))], .robox 55 [.val (.int .u32 a), .val (.int .i64 n), .val (.bool true), .val (.int .i64 x), .val (.pointer none), .val (.pointer none)]]) :=
  code_run Gs0_ok (orc := ⟨[true, true, true, false], []⟩) (obl := [true = true,
      (0 : Int) ≤ a,
      a ≤ (4294967295 : Int),
      (0 : Int) ≤ k,
      k ≤ (4294967295 : Int),
      hasB a n k = true,
      true = true,
      (n == (32 : Int)) = false,
      (0 : Int) ≤ k,
      k ≤ (4294967295 : Int),
      (0 : Int) ≤ n,
      n ≤ (31 : Int),
      sdN k n = (0 : Int),
      (0 : Nat) = (0 : Nat),
      k = k,
      a = a,
      n = n,
      true = true,
      x = x,
      (0 : Int) ≤ (0 : Int),
      (0 : Int) < (↑(2 : Nat) : Int),
      k = k,
      (0 : Nat) = (0 : Nat),
      (0 : Nat) = (0 : Nat),
      x = x,
      true = true,
      Value.pointer none = Value.pointer none,
      (0 : Nat) = (0 : Nat),
      c = c,
      A = A,
      (0 : Int) = (0 : Int),
      (0 : Int) = (0 : Int),
      a = a,
      n = n,
      a = a,
      n = n,
      true = true,
      x = x,
      Value.pointer none = Value.pointer none,
      Value.pointer none = Value.pointer none]) (by kernel_rfl) (.cons (by rfl) (.cons (by assumption) (.cons (by assumption) (.cons (by assumption) (.cons (by assumption) (.cons (by assumption) (.cons (by rfl) (.cons (by exact decide_eq_false (by omega)) (.cons (by assumption) (.cons (by assumption) (.cons (by assumption) (.cons (by assumption) (.cons (by assumption) (.cons (by rfl) (.cons (by rfl) (.cons (by rfl) (.cons (by rfl) (.cons (by rfl) (.cons (by rfl) (.cons (by trivial) (.cons (by trivial) (.cons (by rfl) (.cons (by rfl) (.cons (by rfl) (.cons (by rfl) (.cons (by rfl) (.cons (by rfl) (.cons (by rfl) (.cons (by rfl) (.cons (by rfl) (.cons (by rfl) (.cons (by rfl) (.cons (by rfl) (.cons (by rfl) (.cons (by rfl) (.cons (by rfl) (.cons (by rfl) (.cons (by rfl) (.cons (by rfl) (.cons (by rfl) .nil)))))))))))))))))))))))))))))))))))))))) (Nat.le_of_ble_eq_true (by kernel_rfl))

set_option maxHeartbeats 2000000 in
theorem ffb_1tnn (k a n x c q1 q2 y : Int) (z : Bool) (A : Abs) (k1 k2 : Nat) (ha : 0 ≤ k) (ha2 : k ≤ 4294967295) (ha3 : 0 ≤ a) (ha4 : a ≤ 4294967295) (hn0 : 0 ≤ n) (hn31 : n ≤ 31) (hn2 : n ≠ 32) (hb : hasB a n k = true) (hs : sdN k n = 1) : CodeOk Try.prog 5 (subC [true, true, true, true, true, false, true, true, true] (bodyOf Try.f9)) (mkSt 59 [(1, .nv (.one (.val (.int .u32 k)))), (4, .nv (.one (.ptr 2 0))), (7, .nv (.one (.ptr 3 0))), (8, .nv (.one (.val (.int .i64 (y))))), (9, bA z), (10, .nv (.one (.ptr 4 0)))] [.robox 57 [.root 1 0 true, .val (.int .i64 c)], .roabs A, .box 28 [.val (.int .u32 (0)), .val (.int .i64 (0))], .box 28 [.val (.int .u32 (q1)), .val (.int .i64 (q2))], .robox 55 [.val (.int .u32 a), .val (.int .i64 n), .val (.bool true), .val (.int .i64 x), .val (.pointer none), .val (.pointer none)]]) .normal (mkSt 59 [(1, .nv (.one (.val (.int .u32 k)))), (4, .nv (.one (.ptr 2 0))), (7, .nv (.one (.ptr 3 0))), (8, .nv (.one (.val (.int .i64 (x))))), (9, bA true), (10, .nv (.one (.val (.pointer none))))] [.robox 57 [.root 1 0 true, .val (.int .i64 c)], .roabs A, .box 28 [.val (.int .u32 (0)), .val (.int .i64 (0))], .box 28 [.val (.int .u32 (a)), .val (.int .i64 (n))], .robox 55 [.val (.int .u32 a), .val (.int .i64 n), .val (.bool true), .val (.int .i64 x), .val (.pointer none), .val (.pointer none)]]) :=
  code_run Gs1_ok (orc := ⟨[true, true, true, false], []⟩) (obl := [true = true,
      (0 : Int) ≤ a,
      a ≤ (4294967295 : Int),
      (0 : Int) ≤ k,
      k ≤ (4294967295 : Int),
      hasB a n k = true,
      true = true,
      (n == (32 : Int)) = false,
      (0 : Int) ≤ k,
      k ≤ (4294967295 : Int),
      (0 : Int) ≤ n,
      n ≤ (31 : Int),
      sdN k n = (1 : Int),
      (0 : Nat) = (0 : Nat),
      k = k,
      a = a,
      n = n,
      true = true,
      x = x,
      (0 : Int) ≤ (1 : Int),
      (1 : Int) < (↑(2 : Nat) : Int),
      k = k,
      (0 : Nat) = (0 : Nat),
      (0 : Nat) = (0 : Nat),
      x = x,
      true = true,
      Value.pointer none = Value.pointer none,
      (0 : Nat) = (0 : Nat),
      c = c,
      A = A,
      (0 : Int) = (0 : Int),
      (0 : Int) = (0 : Int),
      a = a,
      n = n,
      a = a,
      n = n,
      true = true,
      x = x,
      Value.pointer none = Value.pointer none,
      Value.pointer none = Value.pointer none]) (by kernel_rfl) (.cons (by rfl) (.cons (by assumption) (.cons (by assumption) (.cons (by assumption) (.cons (by assumption) (.cons (by assumption) (.cons (by rfl) (.cons (by exact decide_eq_false (by omega)) (.cons (by assumption) (.cons (by assumption) (.cons (by assumption) (.cons (by assumption) (.cons (by assumption) (.cons (by rfl) (.cons (by rfl) (.cons (by rfl) (.cons (by rfl) (.cons (by rfl) (.cons (by rfl) (.cons (by trivial) (.cons (by trivial) (.cons (by rfl) (.cons (by rfl) (.cons (by rfl) (.cons (by rfl) (.cons (by rfl) (.cons (by rfl) (.cons (by rfl) (.cons (by rfl) (.cons (by rfl) (.cons (by rfl) (.cons (by rfl) (.cons (by rfl) (.cons (by rfl) (.cons (by rfl) (.cons (by rfl) (.cons (by rfl) (.cons (by rfl) (.cons (by rfl) (.cons (by rfl) .nil)))))))))))))))))))))))))))))))))))))))) (Nat.le_of_ble_eq_true (by kernel_rfl))

set_option maxHeartbeats 2000000 in
theorem ffb_0fnn (k a n x c q1 q2 y : Int) (z : Bool) (A : Abs) (k1 k2 : Nat) (ha : 0 ≤ k) (ha2 : k ≤ 4294967295) (ha3 : 0 ≤ a) (ha4 : a ≤ 4294967295) (hn0 : 0 ≤ n) (hn31 : n ≤ 31) (hn2 : n ≠ 32) (hb : hasB a n k = true) (hs : sdN k n = 0) : CodeOk Try.prog 5 (subC [true, true, true, true, true, false, true, true, true] (bodyOf Try.f9)) (mkSt 59 [(1, .nv (.one (.val (.int .u32 k)))), (4, .nv (.one (.ptr 2 0))), (7, .nv (.one (.ptr 3 0))), (8, .nv (.one (.val (.int .i64 (y))))), (9, bA z), (10, .nv (.one (.ptr 4 0)))] [.robox 57 [.root 1 0 true, .val (.int .i64 c)], .roabs A, .box 28 [.val (.int .u32 (0)), .val (.int .i64 (0))], .box 28 [.val (.int .u32 (q1)), .val (.int .i64 (q2))], .robox 55 [.val (.int .u32 a), .val (.int .i64 n), .val (.bool false), .val (.int .i64 x), .val (.pointer none), .val (.pointer none)]]) .normal (mkSt 59 [(1, .nv (.one (.val (.int .u32 k)))), (4, .nv (.one (.ptr 2 0))), (7, .nv (.one (.ptr 3 0))), (8, .nv (.one (.val (.int .i64 (y))))), (9, bA z), (10, .nv (.one (.val (.pointer none))))] [.robox 57 [.root 1 0 true, .val (.int .i64 c)], .roabs A, .box 28 [.val (.int .u32 (0)), .val (.int .i64 (0))], .box 28 [.val (.int .u32 (q1)), .val (.int .i64 (q2))], .robox 55 [.val (.int .u32 a), .val (.int .i64 n), .val (.bool false), .val (.int .i64 x), .val (.pointer none), .val (.pointer none)]]) :=
  code_run Gs0_ok (orc := ⟨[true, true, false, false], []⟩) (obl := [true = true,
      (0 : Int) ≤ a,
      a ≤ (4294967295 : Int),
      (0 : Int) ≤ k,
      k ≤ (4294967295 : Int),
      hasB a n k = true,
      false = false,
      (n == (32 : Int)) = false,
      (0 : Int) ≤ k,
      k ≤ (4294967295 : Int),
      (0 : Int) ≤ n,
      n ≤ (31 : Int),
      sdN k n = (0 : Int),
      (0 : Nat) = (0 : Nat),
      k = k,
      a = a,
      n = n,
      false = false,
      x = x,
      (0 : Int) ≤ (0 : Int),
      (0 : Int) < (↑(2 : Nat) : Int),
      k = k,
      (0 : Nat) = (0 : Nat),
      (0 : Nat) = (0 : Nat),
      y = y,
      z = z,
      Value.pointer none = Value.pointer none,
      (0 : Nat) = (0 : Nat),
      c = c,
      A = A,
      (0 : Int) = (0 : Int),
      (0 : Int) = (0 : Int),
      q1 = q1,
      q2 = q2,
      a = a,
      n = n,
      false = false,
      x = x,
      Value.pointer none = Value.pointer none,
      Value.pointer none = Value.pointer none]) (by kernel_rfl) (.cons (by rfl) (.cons (by assumption) (.cons (by assumption) (.cons (by assumption) (.cons (by assumption) (.cons (by assumption) (.cons (by rfl) (.cons (by exact decide_eq_false (by omega)) (.cons (by assumption) (.cons (by assumption) (.cons (by assumption) (.cons (by assumption) (.cons (by assumption) (.cons (by rfl) (.cons (by rfl) (.cons (by rfl) (.cons (by rfl) (.cons (by rfl) (.cons (by rfl) (.cons (by trivial) (.cons (by trivial) (.cons (by rfl) (.cons (by rfl) (.cons (by rfl) (.cons (by rfl) (.cons (by rfl) (.cons (by rfl) (.cons (by rfl) (.cons (by rfl) (.cons (by rfl) (.cons (by rfl) (.cons (by rfl) (.cons (by rfl) (.cons (by rfl) (.cons (by rfl) (.cons (by rfl) (.cons (by rfl) (.cons (by rfl) (.cons (by rfl) (.cons (by rfl) .nil)))))))))))))))))))))))))))))))))))))))) (Nat.le_of_ble_eq_true (by kernel_rfl))

set_option maxHeartbeats 2000000 in
theorem ffb_1fnn (k a n x c q1 q2 y : Int) (z : Bool) (A : Abs) (k1 k2 : Nat) (ha : 0 ≤ k) (ha2 : k ≤ 4294967295) (ha3 : 0 ≤ a) (ha4 : a ≤ 4294967295) (hn0 : 0 ≤ n) (hn31 : n ≤ 31) (hn2 : n ≠ 32) (hb : hasB a n k = true) (hs : sdN k n = 1) : CodeOk Try.prog 5 (subC [true, true, true, true, true, false, true, true, true] (bodyOf Try.f9)) (mkSt 59 [(1, .nv (.one (.val (.int .u32 k)))), (4, .nv (.one (.ptr 2 0))), (7, .nv (.one (.ptr 3 0))), (8, .nv (.one (.val (.int .i64 (y))))), (9, bA z), (10, .nv (.one (.ptr 4 0)))] [.robox 57 [.root 1 0 true, .val (.int .i64 c)], .roabs A, .box 28 [.val (.int .u32 (0)), .val (.int .i64 (0))], .box 28 [.val (.int .u32 (q1)), .val (.int .i64 (q2))], .robox 55 [.val (.int .u32 a), .val (.int .i64 n), .val (.bool false), .val (.int .i64 x), .val (.pointer none), .val (.pointer none)]]) .normal (mkSt 59 [(1, .nv (.one (.val (.int .u32 k)))), (4, .nv (.one (.ptr 2 0))), (7, .nv (.one (.ptr 3 0))), (8, .nv (.one (.val (.int .i64 (y))))), (9, bA z), (10, .nv (.one (.val (.pointer none))))] [.robox 57 [.root 1 0 true, .val (.int .i64 c)], .roabs A, .box 28 [.val (.int .u32 (0)), .val (.int .i64 (0))], .box 28 [.val (.int .u32 (q1)), .val (.int .i64 (q2))], .robox 55 [.val (.int .u32 a), .val (.int .i64 n), .val (.bool false), .val (.int .i64 x), .val (.pointer none), .val (.pointer none)]]) :=
  code_run Gs1_ok (orc := ⟨[true, true, false, false], []⟩) (obl := [true = true,
      (0 : Int) ≤ a,
      a ≤ (4294967295 : Int),
      (0 : Int) ≤ k,
      k ≤ (4294967295 : Int),
      hasB a n k = true,
      false = false,
      (n == (32 : Int)) = false,
      (0 : Int) ≤ k,
      k ≤ (4294967295 : Int),
      (0 : Int) ≤ n,
      n ≤ (31 : Int),
      sdN k n = (1 : Int),
      (0 : Nat) = (0 : Nat),
      k = k,
      a = a,
      n = n,
      false = false,
      x = x,
      (0 : Int) ≤ (1 : Int),
      (1 : Int) < (↑(2 : Nat) : Int),
      k = k,
      (0 : Nat) = (0 : Nat),
      (0 : Nat) = (0 : Nat),
      y = y,
      z = z,
      Value.pointer none = Value.pointer none,
      (0 : Nat) = (0 : Nat),
      c = c,
      A = A,
      (0 : Int) = (0 : Int),
      (0 : Int) = (0 : Int),
      q1 = q1,
      q2 = q2,
      a = a,
      n = n,
      false = false,
      x = x,
      Value.pointer none = Value.pointer none,
      Value.pointer none = Value.pointer none]) (by kernel_rfl) (.cons (by rfl) (.cons (by assumption) (.cons (by assumption) (.cons (by assumption) (.cons (by assumption) (.cons (by assumption) (.cons (by rfl) (.cons (by exact decide_eq_false (by omega)) (.cons (by assumption) (.cons (by assumption) (.cons (by assumption) (.cons (by assumption) (.cons (by assumption) (.cons (by rfl) (.cons (by rfl) (.cons (by rfl) (.cons (by rfl) (.cons (by rfl) (.cons (by rfl) (.cons (by trivial) (.cons (by trivial) (.cons (by rfl) (.cons (by rfl) (.cons (by rfl) (.cons (by rfl) (.cons (by rfl) (.cons (by rfl) (.cons (by rfl) (.cons (by rfl) (.cons (by rfl) (.cons (by rfl) (.cons (by rfl) (.cons (by rfl) (.cons (by rfl) (.cons (by rfl) (.cons (by rfl) (.cons (by rfl) (.cons (by rfl) (.cons (by rfl) (.cons (by rfl) .nil)))))))))))))))))))))))))))))))))))))))) (Nat.le_of_ble_eq_true (by kernel_rfl))

set_option maxHeartbeats 2000000 in
theorem ffb_0tnk (k a n x c q1 q2 y : Int) (z : Bool) (A : Abs) (k1 k2 : Nat) (ha : 0 ≤ k) (ha2 : k ≤ 4294967295) (ha3 : 0 ≤ a) (ha4 : a ≤ 4294967295) (hn0 : 0 ≤ n) (hn31 : n ≤ 31) (hn2 : n ≠ 32) (hb : hasB a n k = true) (hs : sdN k n = 0) : CodeOk Try.prog 5 (subC [true, true, true, true, true, false, true, true, true] (bodyOf Try.f9)) (mkSt 59 [(1, .nv (.one (.val (.int .u32 k)))), (4, .nv (.one (.ptr 2 0))), (7, .nv (.one (.ptr 3 0))), (8, .nv (.one (.val (.int .i64 (y))))), (9, bA z), (10, .nv (.one (.ptr 4 0)))] [.robox 57 [.root 1 0 true, .val (.int .i64 c)], .roabs A, .box 28 [.val (.int .u32 (0)), .val (.int .i64 (0))], .box 28 [.val (.int .u32 (q1)), .val (.int .i64 (q2))], .robox 55 [.val (.int .u32 a), .val (.int .i64 n), .val (.bool true), .val (.int .i64 x), .val (.pointer none), .root 1 k2 true]]) .normal (mkSt 59 [(1, .nv (.one (.val (.int .u32 k)))), (4, .nv (.one (.ptr 2 0))), (7, .nv (.one (.ptr 3 0))), (8, .nv (.one (.val (.int .i64 (x))))), (9, bA true), (10, .nv (.one (.val (.pointer none))))] [.robox 57 [.root 1 0 true, .val (.int .i64 c)], .roabs A, .box 28 [.val (.int .u32 (0)), .val (.int .i64 (0))], .box 28 [.val (.int .u32 (a)), .val (.int .i64 (n))], .robox 55 [.val (.int .u32 a), .val (.int .i64 n), .val (.bool true), .val (.int .i64 x), .val (.pointer none), .root 1 k2 true]]) :=
  code_run Gs0_ok (orc := ⟨[true, true, true, false], []⟩) (obl := [true = true,
      (0 : Int) ≤ a,
      a ≤ (4294967295 : Int),
      (0 : Int) ≤ k,
      k ≤ (4294967295 : Int),
      hasB a n k = true,
      true = true,
      (n == (32 : Int)) = false,
      (0 : Int) ≤ k,
      k ≤ (4294967295 : Int),
      (0 : Int) ≤ n,
      n ≤ (31 : Int),
      sdN k n = (0 : Int),
      (0 : Nat) = (0 : Nat),
      k = k,
      a = a,
      n = n,
      true = true,
      x = x,
      (0 : Int) ≤ (0 : Int),
      (0 : Int) < (↑(2 : Nat) : Int),
      k = k,
      (0 : Nat) = (0 : Nat),
      (0 : Nat) = (0 : Nat),
      x = x,
      true = true,
      Value.pointer none = Value.pointer none,
      (0 : Nat) = (0 : Nat),
      c = c,
      A = A,
      (0 : Int) = (0 : Int),
      (0 : Int) = (0 : Int),
      a = a,
      n = n,
      a = a,
      n = n,
      true = true,
      x = x,
      Value.pointer none = Value.pointer none,
      k2 = k2]) (by kernel_rfl) (.cons (by rfl) (.cons (by assumption) (.cons (by assumption) (.cons (by assumption) (.cons (by assumption) (.cons (by assumption) (.cons (by rfl) (.cons (by exact decide_eq_false (by omega)) (.cons (by assumption) (.cons (by assumption) (.cons (by assumption) (.cons (by assumption) (.cons (by assumption) (.cons (by rfl) (.cons (by rfl) (.cons (by rfl) (.cons (by rfl) (.cons (by rfl) (.cons (by rfl) (.cons (by trivial) (.cons (by trivial) (.cons (by rfl) (.cons (by rfl) (.cons (by rfl) (.cons (by rfl) (.cons (by rfl) (.cons (by rfl) (.cons (by rfl) (.cons (by rfl) (.cons (by rfl) (.cons (by rfl) (.cons (by rfl) (.cons (by rfl) (.cons (by rfl) (.cons (by rfl) (.cons (by rfl) (.cons (by rfl) (.cons (by rfl) (.cons (by rfl) (.cons (by rfl) .nil)))))))))))))))))))))))))))))))))))))))) (Nat.le_of_ble_eq_true (by kernel_rfl))

set_option maxHeartbeats 2000000 in
theorem ffb_1tnk (k a n x c q1 q2 y : Int) (z : Bool) (A : Abs) (k1 k2 : Nat) (ha : 0 ≤ k) (ha2 : k ≤ 4294967295) (ha3 : 0 ≤ a) (ha4 : a ≤ 4294967295) (hn0 : 0 ≤ n) (hn31 : n ≤ 31) (hn2 : n ≠ 32) (hb : hasB a n k = true) (hs : sdN k n = 1) : CodeOk Try.prog 5 (subC [true, true, true, true, true, false, true, true, true] (bodyOf Try.f9)) (mkSt 59 [(1, .nv (.one (.val (.int .u32 k)))), (4, .nv (.one (.ptr 2 0))), (7, .nv (.one (.ptr 3 0))), (8, .nv (.one (.val (.int .i64 (y))))), (9, bA z), (10, .nv (.one (.ptr 4 0)))] [.robox 57 [.root 1 0 true, .val (.int .i64 c)], .roabs A, .box 28 [.val (.int .u32 (0)), .val (.int .i64 (0))], .box 28 [.val (.int .u32 (q1)), .val (.int .i64 (q2))], .robox 55 [.val (.int .u32 a), .val (.int .i64 n), .val (.bool true), .val (.int .i64 x), .val (.pointer none), .root 1 k2 true]]) .normal (mkSt 59 [(1, .nv (.one (.val (.int .u32 k)))), (4, .nv (.one (.ptr 2 0))), (7, .nv (.one (.ptr 3 0))), (8, .nv (.one (.val (.int .i64 (x))))), (9, bA true), (10, .nv (.one (.root 1 k2 true)))] [.robox 57 [.root 1 0 true, .val (.int .i64 c)], .roabs A, .box 28 [.val (.int .u32 (0)), .val (.int .i64 (0))], .box 28 [.val (.int .u32 (a)), .val (.int .i64 (n))], .robox 55 [.val (.int .u32 a), .val (.int .i64 n), .val (.bool true), .val (.int .i64 x), .val (.pointer none), .root 1 k2 true]]) :=
  code_run Gs1_ok (orc := ⟨[true, true, true, false], []⟩) (obl := [true = true,
      (0 : Int) ≤ a,
      a ≤ (4294967295 : Int),
      (0 : Int) ≤ k,
      k ≤ (4294967295 : Int),
      hasB a n k = true,
      true = true,
      (n == (32 : Int)) = false,
      (0 : Int) ≤ k,
      k ≤ (4294967295 : Int),
      (0 : Int) ≤ n,
      n ≤ (31 : Int),
      sdN k n = (1 : Int),
      (0 : Nat) = (0 : Nat),
      k = k,
      a = a,
      n = n,
      true = true,
      x = x,
      (0 : Int) ≤ (1 : Int),
      (1 : Int) < (↑(2 : Nat) : Int),
      k = k,
      (0 : Nat) = (0 : Nat),
      (0 : Nat) = (0 : Nat),
      x = x,
      true = true,
      k2 = k2,
      (0 : Nat) = (0 : Nat),
      c = c,
      A = A,
      (0 : Int) = (0 : Int),
      (0 : Int) = (0 : Int),
      a = a,
      n = n,
      a = a,
      n = n,
      true = true,
      x = x,
      Value.pointer none = Value.pointer none,
      k2 = k2]) (by kernel_rfl) (.cons (by rfl) (.cons (by assumption) (.cons (by assumption) (.cons (by assumption) (.cons (by assumption) (.cons (by assumption) (.cons (by rfl) (.cons (by exact decide_eq_false (by omega)) (.cons (by assumption) (.cons (by assumption) (.cons (by assumption) (.cons (by assumption) (.cons (by assumption) (.cons (by rfl) (.cons (by rfl) (.cons (by rfl) (.cons (by rfl) (.cons (by rfl) (.cons (by rfl) (.cons (by trivial) (.cons (by trivial) (.cons (by rfl) (.cons (by rfl) (.cons (by rfl) (.cons (by rfl) (.cons (by rfl) (.cons (by rfl) (.cons (by rfl) (.cons (by rfl) (.cons (by rfl) (.cons (by rfl) (.cons (by rfl) (.cons (by rfl) (.cons (by rfl) (.cons (by rfl) (.cons (by rfl) (.cons (by rfl) (.cons (by rfl) (.cons (by rfl) (.cons (by rfl) .nil)))))))))))))))))))))))))))))))))))))))) (Nat.le_of_ble_eq_true (by kernel_rfl))

set_option maxHeartbeats 2000000 in
theorem ffb_0fnk (k a n x c q1 q2 y : Int) (z : Bool) (A : Abs) (k1 k2 : Nat) (ha : 0 ≤ k) (ha2 : k ≤ 4294967295) (ha3 : 0 ≤ a) (ha4 : a ≤ 4294967295) (hn0 : 0 ≤ n) (hn31 : n ≤ 31) (hn2 : n ≠ 32) (hb : hasB a n k = true) (hs : sdN k n = 0) : CodeOk Try.prog 5 (subC [true, true, true, true, true, false, true, true, true] (bodyOf Try.f9)) (mkSt 59 [(1, .nv (.one (.val (.int .u32 k)))), (4, .nv (.one (.ptr 2 0))), (7, .nv (.one (.ptr 3 0))), (8, .nv (.one (.val (.int .i64 (y))))), (9, bA z), (10, .nv (.one (.ptr 4 0)))] [.robox 57 [.root 1 0 true, .val (.int .i64 c)], .roabs A, .box 28 [.val (.int .u32 (0)), .val (.int .i64 (0))], .box 28 [.val (.int .u32 (q1)), .val (.int .i64 (q2))], .robox 55 [.val (.int .u32 a), .val (.int .i64 n), .val (.bool false), .val (.int .i64 x), .val (.pointer none), .root 1 k2 true]]) .normal (mkSt 59 [(1, .nv (.one (.val (.int .u32 k)))), (4, .nv (.one (.ptr 2 0))), (7, .nv (.one (.ptr 3 0))), (8, .nv (.one (.val (.int .i64 (y))))), (9, bA z), (10, .nv (.one (.val (.pointer none))))] [.robox 57 [.root 1 0 true, .val (.int .i64 c)], .roabs A, .box 28 [.val (.int .u32 (0)), .val (.int .i64 (0))], .box 28 [.val (.int .u32 (q1)), .val (.int .i64 (q2))], .robox 55 [.val (.int .u32 a), .val (.int .i64 n), .val (.bool false), .val (.int .i64 x), .val (.pointer none), .root 1 k2 true]]) :=
  code_run Gs0_ok (orc := ⟨[true, true, false, false], []⟩) (obl := [true = true,
      (0 : Int) ≤ a,
      a ≤ (4294967295 : Int),
      (0 : Int) ≤ k,
      k ≤ (4294967295 : Int),
      hasB a n k = true,
      false = false,
      (n == (32 : Int)) = false,
      (0 : Int) ≤ k,
      k ≤ (4294967295 : Int),
      (0 : Int) ≤ n,
      n ≤ (31 : Int),
      sdN k n = (0 : Int),
      (0 : Nat) = (0 : Nat),
      k = k,
      a = a,
      n = n,
      false = false,
      x = x,
      (0 : Int) ≤ (0 : Int),
      (0 : Int) < (↑(2 : Nat) : Int),
      k = k,
      (0 : Nat) = (0 : Nat),
      (0 : Nat) = (0 : Nat),
      y = y,
      z = z,
      Value.pointer none = Value.pointer none,
      (0 : Nat) = (0 : Nat),
      c = c,
      A = A,
      (0 : Int) = (0 : Int),
      (0 : Int) = (0 : Int),
      q1 = q1,
      q2 = q2,
      a = a,
      n = n,
      false = false,
      x = x,
      Value.pointer none = Value.pointer none,
      k2 = k2]) (by kernel_rfl) (.cons (by rfl) (.cons (by assumption) (.cons (by assumption) (.cons (by assumption) (.cons (by assumption) (.cons (by assumption) (.cons (by rfl) (.cons (by exact decide_eq_false (by omega)) (.cons (by assumption) (.cons (by assumption) (.cons (by assumption) (.cons (by assumption) (.cons (by assumption) (.cons (by rfl) (.cons (by rfl) (.cons (by rfl) (.cons (by rfl) (.cons (by rfl) (.cons (by rfl) (.cons (by trivial) (.cons (by trivial) (.cons (by rfl) (.cons (by rfl) (.cons (by rfl) (.cons (by rfl) (.cons (by rfl) (.cons (by rfl) (.cons (by rfl) (.cons (by rfl) (.cons (by rfl) (.cons (by rfl) (.cons (by rfl) (.cons (by rfl) (.cons (by rfl) (.cons (by rfl) (.cons (by rfl) (.cons (by rfl) (.cons (by rfl) (.cons (by rfl) (.cons (by rfl) .nil)))))))))))))))))))))))))))))))))))))))) (Nat.le_of_ble_eq_true (by kernel_rfl))

set_option maxHeartbeats 2000000 in
theorem ffb_1fnk (k a n x c q1 q2 y : Int) (z : Bool) (A : Abs) (k1 k2 : Nat) (ha : 0 ≤ k) (ha2 : k ≤ 4294967295) (ha3 : 0 ≤ a) (ha4 : a ≤ 4294967295) (hn0 : 0 ≤ n) (hn31 : n ≤ 31) (hn2 : n ≠ 32) (hb : hasB a n k = true) (hs : sdN k n = 1) : CodeOk Try.prog 5 (subC [true, true, true, true, true, false, true, true, true] (bodyOf Try.f9)) (mkSt 59 [(1, .nv (.one (.val (.int .u32 k)))), (4, .nv (.one (.ptr 2 0))), (7, .nv (.one (.ptr 3 0))), (8, .nv (.one (.val (.int .i64 (y))))), (9, bA z), (10, .nv (.one (.ptr 4 0)))] [.robox 57 [.root 1 0 true, .val (.int .i64 c)], .roabs A, .box 28 [.val (.int .u32 (0)), .val (.int .i64 (0))], .box 28 [.val (.int .u32 (q1)), .val (.int .i64 (q2))], .robox 55 [.val (.int .u32 a), .val (.int .i64 n), .val (.bool false), .val (.int .i64 x), .val (.pointer none), .root 1 k2 true]]) .normal (mkSt 59 [(1, .nv (.one (.val (.int .u32 k)))), (4, .nv (.one (.ptr 2 0))), (7, .nv (.one (.ptr 3 0))), (8, .nv (.one (.val (.int .i64 (y))))), (9, bA z), (10, .nv (.one (.root 1 k2 true)))] [.robox 57 [.root 1 0 true, .val (.int .i64 c)], .roabs A, .box 28 [.val (.int .u32 (0)), .val (.int .i64 (0))], .box 28 [.val (.int .u32 (q1)), .val (.int .i64 (q2))], .robox 55 [.val (.int .u32 a), .val (.int .i64 n), .val (.bool false), .val (.int .i64 x), .val (.pointer none), .root 1 k2 true]]) :=
  code_run Gs1_ok (orc := ⟨[true, true, false, false], []⟩) (obl := [true = true,
      (0 : Int) ≤ a,
      a ≤ (4294967295 : Int),
      (0 : Int) ≤ k,
      k ≤ (4294967295 : Int),
      hasB a n k = true,
      false = false,
      (n == (32 : Int)) = false,
      (0 : Int) ≤ k,
      k ≤ (4294967295 : Int),
      (0 : Int) ≤ n,
      n ≤ (31 : Int),
      sdN k n = (1 : Int),
      (0 : Nat) = (0 : Nat),
      k = k,
      a = a,
      n = n,
      false = false,
      x = x,
      (0 : Int) ≤ (1 : Int),
      (1 : Int) < (↑(2 : Nat) : Int),
      k = k,
      (0 : Nat) = (0 : Nat),
      (0 : Nat) = (0 : Nat),
      y = y,
      z = z,
      k2 = k2,
      (0 : Nat) = (0 : Nat),
      c = c,
      A = A,
      (0 : Int) = (0 : Int),
      (0 : Int) = (0 : Int),
      q1 = q1,
      q2 = q2,
      a = a,
      n = n,
      false = false,
      x = x,
      Value.pointer none = Value.pointer none,
      k2 = k2]) (by kernel_rfl) (.cons (by rfl) (.cons (by assumption) (.cons (by assumption) (.cons (by assumption) (.cons (by assumption) (.cons (by assumption) (.cons (by rfl) (.cons (by exact decide_eq_false (by omega)) (.cons (by assumption) (.cons (by assumption) (.cons (by assumption) (.cons (by assumption) (.cons (by assumption) (.cons (by rfl) (.cons (by rfl) (.cons (by rfl) (.cons (by rfl) (.cons (by rfl) (.cons (by rfl) (.cons (by trivial) (.cons (by trivial) (.cons (by rfl) (.cons (by rfl) (.cons (by rfl) (.cons (by rfl) (.cons (by rfl) (.cons (by rfl) (.cons (by rfl) (.cons (by rfl) (.cons (by rfl) (.cons (by rfl) (.cons (by rfl) (.cons (by rfl) (.cons (by rfl) (.cons (by rfl) (.cons (by rfl) (.cons (by rfl) (.cons (by rfl) (.cons (by rfl) (.cons (by rfl) .nil)))))))))))))))))))))))))))))))))))))))) (Nat.le_of_ble_eq_true (by kernel_rfl))

set_option maxHeartbeats 2000000 in
theorem ffb_0tkn (k a n x c q1 q2 y : Int) (z : Bool) (A : Abs) (k1 k2 : Nat) (ha : 0 ≤ k) (ha2 : k ≤ 4294967295) (ha3 : 0 ≤ a) (ha4 : a ≤ 4294967295) (hn0 : 0 ≤ n) (hn31 : n ≤ 31) (hn2 : n ≠ 32) (hb : hasB a n k = true) (hs : sdN k n = 0) : CodeOk Try.prog 5 (subC [true, true, true, true, true, false, true, true, true] (bodyOf Try.f9)) (mkSt 59 [(1, .nv (.one (.val (.int .u32 k)))), (4, .nv (.one (.ptr 2 0))), (7, .nv (.one (.ptr 3 0))), (8, .nv (.one (.val (.int .i64 (y))))), (9, bA z), (10, .nv (.one (.ptr 4 0)))] [.robox 57 [.root 1 0 true, .val (.int .i64 c)], .roabs A, .box 28 [.val (.int .u32 (0)), .val (.int .i64 (0))], .box 28 [.val (.int .u32 (q1)), .val (.int .i64 (q2))], .robox 55 [.val (.int .u32 a), .val (.int .i64 n), .val (.bool true), .val (.int .i64 x), .root 1 k1 true, .val (.pointer none)]]) .normal (mkSt 59 [(1, .nv (.one (.val (.int .u32 k)))), (4, .nv (.one (.ptr 2 0))), (7, .nv (.one (.ptr 3 0))), (8, .nv (.one (.val (.int .i64 (x))))), (9, bA true), (10, .nv (.one (.root 1 k1 true)))] [.robox 57 [.root 1 0 true, .val (.int .i64 c)], .roabs A, .box 28 [.val (.int .u32 (0)), .val (.int .i64 (0))], .box 28 [.val (.int .u32 (a)), .val (.int .i64 (n))], .robox 55 [.val (.int .u32 a), .val (.int .i64 n), .val (.bool true), .val (.int .i64 x), .root 1 k1 true, .val (.pointer none)]]) :=
  code_run Gs0_ok (orc := ⟨[true, true, true, false], []⟩) (obl := [true = true,
      (0 : Int) ≤ a,
      a ≤ (4294967295 : Int),
      (0 : Int) ≤ k,
      k ≤ (4294967295 : Int),
      hasB a n k = true,
      true = true,
      (n == (32 : Int)) = false,
      (0 : Int) ≤ k,
      k ≤ (4294967295 : Int),
      (0 : Int) ≤ n,
      n ≤ (31 : Int),
      sdN k n = (0 : Int),
      (0 : Nat) = (0 : Nat),
      k = k,
      a = a,
      n = n,
      true = true,
      x = x,
      (0 : Int) ≤ (0 : Int),
      (0 : Int) < (↑(2 : Nat) : Int),
      k = k,
      (0 : Nat) = (0 : Nat),
      (0 : Nat) = (0 : Nat),
      x = x,
      true = true,
      k1 = k1,
      (0 : Nat) = (0 : Nat),
      c = c,
      A = A,
      (0 : Int) = (0 : Int),
      (0 : Int) = (0 : Int),
      a = a,
      n = n,
      a = a,
      n = n,
      true = true,
      x = x,
      k1 = k1,
      Value.pointer none = Value.pointer none]) (by kernel_rfl) (.cons (by rfl) (.cons (by assumption) (.cons (by assumption) (.cons (by assumption) (.cons (by assumption) (.cons (by assumption) (.cons (by rfl) (.cons (by exact decide_eq_false (by omega)) (.cons (by assumption) (.cons (by assumption) (.cons (by assumption) (.cons (by assumption) (.cons (by assumption) (.cons (by rfl) (.cons (by rfl) (.cons (by rfl) (.cons (by rfl) (.cons (by rfl) (.cons (by rfl) (.cons (by trivial) (.cons (by trivial) (.cons (by rfl) (.cons (by rfl) (.cons (by rfl) (.cons (by rfl) (.cons (by rfl) (.cons (by rfl) (.cons (by rfl) (.cons (by rfl) (.cons (by rfl) (.cons (by rfl) (.cons (by rfl) (.cons (by rfl) (.cons (by rfl) (.cons (by rfl) (.cons (by rfl) (.cons (by rfl) (.cons (by rfl) (.cons (by rfl) (.cons (by rfl) .nil)))))))))))))))))))))))))))))))))))))))) (Nat.le_of_ble_eq_true (by kernel_rfl))

set_option maxHeartbeats 2000000 in
theorem ffb_1tkn (k a n x c q1 q2 y : Int) (z : Bool) (A : Abs) (k1 k2 : Nat) (ha : 0 ≤ k) (ha2 : k ≤ 4294967295) (ha3 : 0 ≤ a) (ha4 : a ≤ 4294967295) (hn0 : 0 ≤ n) (hn31 : n ≤ 31) (hn2 : n ≠ 32) (hb : hasB a n k = true) (hs : sdN k n = 1) : CodeOk Try.prog 5 (subC [true, true, true, true, true, false, true, true, true] (bodyOf Try.f9)) (mkSt 59 [(1, .nv (.one (.val (.int .u32 k)))), (4, .nv (.one (.ptr 2 0))), (7, .nv (.one (.ptr 3 0))), (8, .nv (.one (.val (.int .i64 (y))))), (9, bA z), (10, .nv (.one (.ptr 4 0)))] [.robox 57 [.root 1 0 true, .val (.int .i64 c)], .roabs A, .box 28 [.val (.int .u32 (0)), .val (.int .i64 (0))], .box 28 [.val (.int .u32 (q1)), .val (.int .i64 (q2))], .robox 55 [.val (.int .u32 a), .val (.int .i64 n), .val (.bool true), .val (.int .i64 x), .root 1 k1 true, .val (.pointer none)]]) .normal (mkSt 59 [(1, .nv (.one (.val (.int .u32 k)))), (4, .nv (.one (.ptr 2 0))), (7, .nv (.one (.ptr 3 0))), (8, .nv (.one (.val (.int .i64 (x))))), (9, bA true), (10, .nv (.one (.val (.pointer none))))] [.robox 57 [.root 1 0 true, .val (.int .i64 c)], .roabs A, .box 28 [.val (.int .u32 (0)), .val (.int .i64 (0))], .box 28 [.val (.int .u32 (a)), .val (.int .i64 (n))], .robox 55 [.val (.int .u32 a), .val (.int .i64 n), .val (.bool true), .val (.int .i64 x), .root 1 k1 true, .val (.pointer none)]]) :=
  code_run Gs1_ok (orc := ⟨[true, true, true, false], []⟩) (obl := [true = true,
      (0 : Int) ≤ a,
      a ≤ (4294967295 : Int),
      (0 : Int) ≤ k,
      k ≤ (4294967295 : Int),
      hasB a n k = true,
      true = true,
      (n == (32 : Int)) = false,
      (0 : Int) ≤ k,
      k ≤ (4294967295 : Int),
      (0 : Int) ≤ n,
      n ≤ (31 : Int),
      sdN k n = (1 : Int),
      (0 : Nat) = (0 : Nat),
      k = k,
      a = a,
      n = n,
      true = true,
      x = x,
      (0 : Int) ≤ (1 : Int),
      (1 : Int) < (↑(2 : Nat) : Int),
      k = k,
      (0 : Nat) = (0 : Nat),
      (0 : Nat) = (0 : Nat),
      x = x,
      true = true,
      Value.pointer none = Value.pointer none,
      (0 : Nat) = (0 : Nat),
      c = c,
      A = A,
      (0 : Int) = (0 : Int),
      (0 : Int) = (0 : Int),
      a = a,
      n = n,
      a = a,
      n = n,
      true = true,
      x = x,
      k1 = k1,
      Value.pointer none = Value.pointer none]) (by kernel_rfl) (.cons (by rfl) (.cons (by assumption) (.cons (by assumption) (.cons (by assumption) (.cons (by assumption) (.cons (by assumption) (.cons (by rfl) (.cons (by exact decide_eq_false (by omega)) (.cons (by assumption) (.cons (by assumption) (.cons (by assumption) (.cons (by assumption) (.cons (by assumption) (.cons (by rfl) (.cons (by rfl) (.cons (by rfl) (.cons (by rfl) (.cons (by rfl) (.cons (by rfl) (.cons (by trivial) (.cons (by trivial) (.cons (by rfl) (.cons (by rfl) (.cons (by rfl) (.cons (by rfl) (.cons (by rfl) (.cons (by rfl) (.cons (by rfl) (.cons (by rfl) (.cons (by rfl) (.cons (by rfl) (.cons (by rfl) (.cons (by rfl) (.cons (by rfl) (.cons (by rfl) (.cons (by rfl) (.cons (by rfl) (.cons (by rfl) (.cons (by rfl) (.cons (by rfl) .nil)))))))))))))))))))))))))))))))))))))))) (Nat.le_of_ble_eq_true (by kernel_rfl))

set_option maxHeartbeats 2000000 in
theorem ffb_0fkn (k a n x c q1 q2 y : Int) (z : Bool) (A : Abs) (k1 k2 : Nat) (ha : 0 ≤ k) (ha2 : k ≤ 4294967295) (ha3 : 0 ≤ a) (ha4 : a ≤ 4294967295) (hn0 : 0 ≤ n) (hn31 : n ≤ 31) (hn2 : n ≠ 32) (hb : hasB a n k = true) (hs : sdN k n = 0) : CodeOk Try.prog 5 (subC [true, true, true, true, true, false, true, true, true] (bodyOf Try.f9)) (mkSt 59 [(1, .nv (.one (.val (.int .u32 k)))), (4, .nv (.one (.ptr 2 0))), (7, .nv (.one (.ptr 3 0))), (8, .nv (.one (.val (.int .i64 (y))))), (9, bA z), (10, .nv (.one (.ptr 4 0)))] [.robox 57 [.root 1 0 true, .val (.int .i64 c)], .roabs A, .box 28 [.val (.int .u32 (0)), .val (.int .i64 (0))], .box 28 [.val (.int .u32 (q1)), .val (.int .i64 (q2))], .robox 55 [.val (.int .u32 a), .val (.int .i64 n), .val (.bool false), .val (.int .i64 x), .root 1 k1 true, .val (.pointer none)]]) .normal (mkSt 59 [(1, .nv (.one (.val (.int .u32 k)))), (4, .nv (.one (.ptr 2 0))), (7, .nv (.one (.ptr 3 0))), (8, .nv (.one (.val (.int .i64 (y))))), (9, bA z), (10, .nv (.one (.root 1 k1 true)))] [.robox 57 [.root 1 0 true, .val (.int .i64 c)], .roabs A, .box 28 [.val (.int .u32 (0)), .val (.int .i64 (0))], .box 28 [.val (.int .u32 (q1)), .val (.int .i64 (q2))], .robox 55 [.val (.int .u32 a), .val (.int .i64 n), .val (.bool false), .val (.int .i64 x), .root 1 k1 true, .val (.pointer none)]]) :=
  code_run Gs0_ok (orc := ⟨[true, true, false, false], []⟩) (obl := [true = true,
      (0 : Int) ≤ a,
      a ≤ (4294967295 : Int),
      (0 : Int) ≤ k,
      k ≤ (4294967295 : Int),
      hasB a n k = true,
      false = false,
      (n == (32 : Int)) = false,
      (0 : Int) ≤ k,
      k ≤ (4294967295 : Int),
      (0 : Int) ≤ n,
      n ≤ (31 : Int),
      sdN k n = (0 : Int),
      (0 : Nat) = (0 : Nat),
      k = k,
      a = a,
      n = n,
      false = false,
      x = x,
      (0 : Int) ≤ (0 : Int),
      (0 : Int) < (↑(2 : Nat) : Int),
      k = k,
      (0 : Nat) = (0 : Nat),
      (0 : Nat) = (0 : Nat),
      y = y,
      z = z,
      k1 = k1,
      (0 : Nat) = (0 : Nat),
      c = c,
      A = A,
      (0 : Int) = (0 : Int),
      (0 : Int) = (0 : Int),
      q1 = q1,
      q2 = q2,
      a = a,
      n = n,
      false = false,
      x = x,
      k1 = k1,
      Value.pointer none = Value.pointer none]) (by kernel_rfl) (.cons (by rfl) (.cons (by assumption) (.cons (by assumption) (.cons (by assumption) (.cons (by assumption) (.cons (by assumption) (.cons (by rfl) (.cons (by exact decide_eq_false (by omega)) (.cons (by assumption) (.cons (by assumption) (.cons (by assumption) (.cons (by assumption) (.cons (by assumption) (.cons (by rfl) (.cons (by rfl) (.cons (by rfl) (.cons (by rfl) (.cons (by rfl) (.cons (by rfl) (.cons (by trivial) (.cons (by trivial) (.cons (by rfl) (.cons (by rfl) (.cons (by rfl) (.cons (by rfl) (.cons (by rfl) (.cons (by rfl) (.cons (by rfl) (.cons (by rfl) (.cons (by rfl) (.cons (by rfl) (.cons (by rfl) (.cons (by rfl) (.cons (by rfl) (.cons (by rfl) (.cons (by rfl) (.cons (by rfl) (.cons (by rfl) (.cons (by rfl) (.cons (by rfl) .nil)))))))))))))))))))))))))))))))))))))))) (Nat.le_of_ble_eq_true (by kernel_rfl))

set_option maxHeartbeats 2000000 in
theorem ffb_1fkn (k a n x c q1 q2 y : Int) (z : Bool) (A : Abs) (k1 k2 : Nat) (ha : 0 ≤ k) (ha2 : k ≤ 4294967295) (ha3 : 0 ≤ a) (ha4 : a ≤ 4294967295) (hn0 : 0 ≤ n) (hn31 : n ≤ 31) (hn2 : n ≠ 32) (hb : hasB a n k = true) (hs : sdN k n = 1) : CodeOk Try.prog 5 (subC [true, true, true, true, true, false, true, true, true] (bodyOf Try.f9)) (mkSt 59 [(1, .nv (.one (.val (.int .u32 k)))), (4, .nv (.one (.ptr 2 0))), (7, .nv (.one (.ptr 3 0))), (8, .nv (.one (.val (.int .i64 (y))))), (9, bA z), (10, .nv (.one (.ptr 4 0)))] [.robox 57 [.root 1 0 true, .val (.int .i64 c)], .roabs A, .box 28 [.val (.int .u32 (0)), .val (.int .i64 (0))], .box 28 [.val (.int .u32 (q1)), .val (.int .i64 (q2))], .robox 55 [.val (.int .u32 a), .val (.int .i64 n), .val (.bool false), .val (.int .i64 x), .root 1 k1 true, .val (.pointer none)]]) .normal (mkSt 59 [(1, .nv (.one (.val (.int .u32 k)))), (4, .nv (.one (.ptr 2 0))), (7, .nv (.one (.ptr 3 0))), (8, .nv (.one (.val (.int .i64 (y))))), (9, bA z), (10, .nv (.one (.val (.pointer none))))] [.robox 57 [.root 1 0 true, .val (.int .i64 c)], .roabs A, .box 28 [.val (.int .u32 (0)), .val (.int .i64 (0))], .box 28 [.val (.int .u32 (q1)), .val (.int .i64 (q2))], .robox 55 [.val (.int .u32 a), .val (.int .i64 n), .val (.bool false), .val (.int .i64 x), .root 1 k1 true, .val (.pointer none)]]) :=
  code_run Gs1_ok (orc := ⟨[true, true, false, false], []⟩) (obl := [true = true,
      (0 : Int) ≤ a,
      a ≤ (4294967295 : Int),
      (0 : Int) ≤ k,
      k ≤ (4294967295 : Int),
      hasB a n k = true,
      false = false,
      (n == (32 : Int)) = false,
      (0 : Int) ≤ k,
      k ≤ (4294967295 : Int),
      (0 : Int) ≤ n,
      n ≤ (31 : Int),
      sdN k n = (1 : Int),
      (0 : Nat) = (0 : Nat),
      k = k,
      a = a,
      n = n,
      false = false,
      x = x,
      (0 : Int) ≤ (1 : Int),
      (1 : Int) < (↑(2 : Nat) : Int),
      k = k,
      (0 : Nat) = (0 : Nat),
      (0 : Nat) = (0 : Nat),
      y = y,
      z = z,
      Value.pointer none = Value.pointer none,
      (0 : Nat) = (0 : Nat),
      c = c,
      A = A,
      (0 : Int) = (0 : Int),
      (0 : Int) = (0 : Int),
      q1 = q1,
      q2 = q2,
      a = a,
      n = n,
      false = false,
      x = x,
      k1 = k1,
      Value.pointer none = Value.pointer none]) (by kernel_rfl) (.cons (by rfl) (.cons (by assumption) (.cons (by assumption) (.cons (by assumption) (.cons (by assumption) (.cons (by assumption) (.cons (by rfl) (.cons (by exact decide_eq_false (by omega)) (.cons (by assumption) (.cons (by assumption) (.cons (by assumption) (.cons (by assumption) (.cons (by assumption) (.cons (by rfl) (.cons (by rfl) (.cons (by rfl) (.cons (by rfl) (.cons (by rfl) (.cons (by rfl) (.cons (by trivial) (.cons (by trivial) (.cons (by rfl) (.cons (by rfl) (.cons (by rfl) (.cons (by rfl) (.cons (by rfl) (.cons (by rfl) (.cons (by rfl) (.cons (by rfl) (.cons (by rfl) (.cons (by rfl) (.cons (by rfl) (.cons (by rfl) (.cons (by rfl) (.cons (by rfl) (.cons (by rfl) (.cons (by rfl) (.cons (by rfl) (.cons (by rfl) (.cons (by rfl) .nil)))))))))))))))))))))))))))))))))))))))) (Nat.le_of_ble_eq_true (by kernel_rfl))

set_option maxHeartbeats 2000000 in
theorem ffb_0tkk (k a n x c q1 q2 y : Int) (z : Bool) (A : Abs) (k1 k2 : Nat) (ha : 0 ≤ k) (ha2 : k ≤ 4294967295) (ha3 : 0 ≤ a) (ha4 : a ≤ 4294967295) (hn0 : 0 ≤ n) (hn31 : n ≤ 31) (hn2 : n ≠ 32) (hb : hasB a n k = true) (hs : sdN k n = 0) : CodeOk Try.prog 5 (subC [true, true, true, true, true, false, true, true, true] (bodyOf Try.f9)) (mkSt 59 [(1, .nv (.one (.val (.int .u32 k)))), (4, .nv (.one (.ptr 2 0))), (7, .nv (.one (.ptr 3 0))), (8, .nv (.one (.val (.int .i64 (y))))), (9, bA z), (10, .nv (.one (.ptr 4 0)))] [.robox 57 [.root 1 0 true, .val (.int .i64 c)], .roabs A, .box 28 [.val (.int .u32 (0)), .val (.int .i64 (0))], .box 28 [.val (.int .u32 (q1)), .val (.int .i64 (q2))], .robox 55 [.val (.int .u32 a), .val (.int .i64 n), .val (.bool true), .val (.int .i64 x), .root 1 k1 true, .root 1 k2 true]]) .normal (mkSt 59 [(1, .nv (.one (.val (.int .u32 k)))), (4, .nv (.one (.ptr 2 0))), (7, .nv (.one (.ptr 3 0))), (8, .nv (.one (.val (.int .i64 (x))))), (9, bA true), (10, .nv (.one (.root 1 k1 true)))] [.robox 57 [.root 1 0 true, .val (.int .i64 c)], .roabs A, .box 28 [.val (.int .u32 (0)), .val (.int .i64 (0))], .box 28 [.val (.int .u32 (a)), .val (.int .i64 (n))], .robox 55 [.val (.int .u32 a), .val (.int .i64 n), .val (.bool true), .val (.int .i64 x), .root 1 k1 true, .root 1 k2 true]]) :=
  code_run Gs0_ok (orc := ⟨[true, true, true, false], []⟩) (obl := [true = true,
      (0 : Int) ≤ a,
      a ≤ (4294967295 : Int),
      (0 : Int) ≤ k,
      k ≤ (4294967295 : Int),
      hasB a n k = true,
      true = true,
      (n == (32 : Int)) = false,
      (0 : Int) ≤ k,
      k ≤ (4294967295 : Int),
      (0 : Int) ≤ n,
      n ≤ (31 : Int),
      sdN k n = (0 : Int),
      (0 : Nat) = (0 : Nat),
      k = k,
      a = a,
      n = n,
      true = true,
      x = x,
      (0 : Int) ≤ (0 : Int),
      (0 : Int) < (↑(2 : Nat) : Int),
      k = k,
      (0 : Nat) = (0 : Nat),
      (0 : Nat) = (0 : Nat),
      x = x,
      true = true,
      k1 = k1,
      (0 : Nat) = (0 : Nat),
      c = c,
      A = A,
      (0 : Int) = (0 : Int),
      (0 : Int) = (0 : Int),
      a = a,
      n = n,
      a = a,
      n = n,
      true = true,
      x = x,
      k1 = k1,
      k2 = k2]) (by kernel_rfl) (.cons (by rfl) (.cons (by assumption) (.cons (by assumption) (.cons (by assumption) (.cons (by assumption) (.cons (by assumption) (.cons (by rfl) (.cons (by exact decide_eq_false (by omega)) (.cons (by assumption) (.cons (by assumption) (.cons (by assumption) (.cons (by assumption) (.cons (by assumption) (.cons (by rfl) (.cons (by rfl) (.cons (by rfl) (.cons (by rfl) (.cons (by rfl) (.cons (by rfl) (.cons (by trivial) (.cons (by trivial) (.cons (by rfl) (.cons (by rfl) (.cons (by rfl) (.cons (by rfl) (.cons (by rfl) (.cons (by rfl) (.cons (by rfl) (.cons (by rfl) (.cons (by rfl) (.cons (by rfl) (.cons (by rfl) (.cons (by rfl) (.cons (by rfl) (.cons (by rfl) (.cons (by rfl) (.cons (by rfl) (.cons (by rfl) (.cons (by rfl) (.cons (by rfl) .nil)))))))))))))))))))))))))))))))))))))))) (Nat.le_of_ble_eq_true (by kernel_rfl))

set_option maxHeartbeats 2000000 in
theorem ffb_1tkk (k a n x c q1 q2 y : Int) (z : Bool) (A : Abs) (k1 k2 : Nat) (ha : 0 ≤ k) (ha2 : k ≤ 4294967295) (ha3 : 0 ≤ a) (ha4 : a ≤ 4294967295) (hn0 : 0 ≤ n) (hn31 : n ≤ 31) (hn2 : n ≠ 32) (hb : hasB a n k = true) (hs : sdN k n = 1) : CodeOk Try.prog 5 (subC [true, true, true, true, true, false, true, true, true] (bodyOf Try.f9)) (mkSt 59 [(1, .nv (.one (.val (.int .u32 k)))), (4, .nv (.one (.ptr 2 0))), (7, .nv (.one (.ptr 3 0))), (8, .nv (.one (.val (.int .i64 (y))))), (9, bA z), (10, .nv (.one (.ptr 4 0)))] [.robox 57 [.root 1 0 true, .val (.int .i64 c)], .roabs A, .box 28 [.val (.int .u32 (0)), .val (.int .i64 (0))], .box 28 [.val (.int .u32 (q1)), .val (.int .i64 (q2))], .robox 55 [.val (.int .u32 a), .val (.int .i64 n), .val (.bool true), .val (.int .i64 x), .root 1 k1 true, .root 1 k2 true]]) .normal (mkSt 59 [(1, .nv (.one (.val (.int .u32 k)))), (4, .nv (.one (.ptr 2 0))), (7, .nv (.one (.ptr 3 0))), (8, .nv (.one (.val (.int .i64 (x))))), (9, bA true), (10, .nv (.one (.root 1 k2 true)))] [.robox 57 [.root 1 0 true, .val (.int .i64 c)], .roabs A, .box 28 [.val (.int .u32 (0)), .val (.int .i64 (0))], .box 28 [.val (.int .u32 (a)), .val (.int .i64 (n))], .robox 55 [.val (.int .u32 a), .val (.int .i64 n), .val (.bool true), .val (.int .i64 x), .root 1 k1 true, .root 1 k2 true]]) :=
  code_run Gs1_ok (orc := ⟨[true, true, true, false], []⟩) (obl := [true = true,
      (0 : Int) ≤ a,
      a ≤ (4294967295 : Int),
      (0 : Int) ≤ k,
      k ≤ (4294967295 : Int),
      hasB a n k = true,
      true = true,
      (n == (32 : Int)) = false,
      (0 : Int) ≤ k,
      k ≤ (4294967295 : Int),
      (0 : Int) ≤ n,
      n ≤ (31 : Int),
      sdN k n = (1 : Int),
      (0 : Nat) = (0 : Nat),
      k = k,
      a = a,
      n = n,
      true = true,
      x = x,
      (0 : Int) ≤ (1 : Int),
      (1 : Int) < (↑(2 : Nat) : Int),
      k = k,
      (0 : Nat) = (0 : Nat),
      (0 : Nat) = (0 : Nat),
      x = x,
      true = true,
      k2 = k2,
      (0 : Nat) = (0 : Nat),
      c = c,
      A = A,
      (0 : Int) = (0 : Int),
      (0 : Int) = (0 : Int),
      a = a,
      n = n,
      a = a,
      n = n,
      true = true,
      x = x,
      k1 = k1,
      k2 = k2]) (by kernel_rfl) (.cons (by rfl) (.cons (by assumption) (.cons (by assumption) (.cons (by assumption) (.cons (by assumption) (.cons (by assumption) (.cons (by rfl) (.cons (by exact decide_eq_false (by omega)) (.cons (by assumption) (.cons (by assumption) (.cons (by assumption) (.cons (by assumption) (.cons (by assumption) (.cons (by rfl) (.cons (by rfl) (.cons (by rfl) (.cons (by rfl) (.cons (by rfl) (.cons (by rfl) (.cons (by trivial) (.cons (by trivial) (.cons (by rfl) (.cons (by rfl) (.cons (by rfl) (.cons (by rfl) (.cons (by rfl) (.cons (by rfl) (.cons (by rfl) (.cons (by rfl) (.cons (by rfl) (.cons (by rfl) (.cons (by rfl) (.cons (by rfl) (.cons (by rfl) (.cons (by rfl) (.cons (by rfl) (.cons (by rfl) (.cons (by rfl) (.cons (by rfl) (.cons (by rfl) .nil)))))))))))))))))))))))))))))))))))))))) (Nat.le_of_ble_eq_true (by kernel_rfl))

set_option maxHeartbeats 2000000 in
theorem ffb_0fkk (k a n x c q1 q2 y : Int) (z : Bool) (A : Abs) (k1 k2 : Nat) (ha : 0 ≤ k) (ha2 : k ≤ 4294967295) (ha3 : 0 ≤ a) (ha4 : a ≤ 4294967295) (hn0 : 0 ≤ n) (hn31 : n ≤ 31) (hn2 : n ≠ 32) (hb : hasB a n k = true) (hs : sdN k n = 0) : CodeOk Try.prog 5 (subC [true, true, true, true, true, false, true, true, true] (bodyOf Try.f9)) (mkSt 59 [(1, .nv (.one (.val (.int .u32 k)))), (4, .nv (.one (.ptr 2 0))), (7, .nv (.one (.ptr 3 0))), (8, .nv (.one (.val (.int .i64 (y))))), (9, bA z), (10, .nv (.one (.ptr 4 0)))] [.robox 57 [.root 1 0 true, .val (.int .i64 c)], .roabs A, .box 28 [.val (.int .u32 (0)), .val (.int .i64 (0))], .box 28 [.val (.int .u32 (q1)), .val (.int .i64 (q2))], .robox 55 [.val (.int .u32 a), .val (.int .i64 n), .val (.bool false), .val (.int .i64 x), .root 1 k1 true, .root 1 k2 true]]) .normal (mkSt 59 [(1, .nv (.one (.val (.int .u32 k)))), (4, .nv (.one (.ptr 2 0))), (7, .nv (.one (.ptr 3 0))), (8, .nv (.one (.val (.int .i64 (y))))), (9, bA z), (10, .nv (.one (.root 1 k1 true)))] [.robox 57 [.root 1 0 true, .val (.int .i64 c)], .roabs A, .box 28 [.val (.int .u32 (0)), .val (.int .i64 (0))], .box 28 [.val (.int .u32 (q1)), .val (.int .i64 (q2))], .robox 55 [.val (.int .u32 a), .val (.int .i64 n), .val (.bool false), .val (.int .i64 x), .root 1 k1 true, .root 1 k2 true]]) :=
  code_run Gs0_ok (orc := ⟨[true, true, false, false], []⟩) (obl := [true = true,
      (0 : Int) ≤ a,
      a ≤ (4294967295 : Int),
      (0 : Int) ≤ k,
      k ≤ (4294967295 : Int),
      hasB a n k = true,
      false = false,
      (n == (32 : Int)) = false,
      (0 : Int) ≤ k,
      k ≤ (4294967295 : Int),
      (0 : Int) ≤ n,
      n ≤ (31 : Int),
      sdN k n = (0 : Int),
      (0 : Nat) = (0 : Nat),
      k = k,
      a = a,
      n = n,
      false = false,
      x = x,
      (0 : Int) ≤ (0 : Int),
      (0 : Int) < (↑(2 : Nat) : Int),
      k = k,
      (0 : Nat) = (0 : Nat),
      (0 : Nat) = (0 : Nat),
      y = y,
      z = z,
      k1 = k1,
      (0 : Nat) = (0 : Nat),
      c = c,
      A = A,
      (0 : Int) = (0 : Int),
      (0 : Int) = (0 : Int),
      q1 = q1,
      q2 = q2,
      a = a,
      n = n,
      false = false,
      x = x,
      k1 = k1,
      k2 = k2]) (by kernel_rfl) (.cons (by rfl) (.cons (by assumption) (.cons (by assumption) (.cons (by assumption) (.cons (by assumption) (.cons (by assumption) (.cons (by rfl) (.cons (by exact decide_eq_false (by omega)) (.cons (by assumption) (.cons (by assumption) (.cons (by assumption) (.cons (by assumption) (.cons (by assumption) (.cons (by rfl) (.cons (by rfl) (.cons (by rfl) (.cons (by rfl) (.cons (by rfl) (.cons (by rfl) (.cons (by trivial) (.cons (by trivial) (.cons (by rfl) (.cons (by rfl) (.cons (by rfl) (.cons (by rfl) (.cons (by rfl) (.cons (by rfl) (.cons (by rfl) (.cons (by rfl) (.cons (by rfl) (.cons (by rfl) (.cons (by rfl) (.cons (by rfl) (.cons (by rfl) (.cons (by rfl) (.cons (by rfl) (.cons (by rfl) (.cons (by rfl) (.cons (by rfl) (.cons (by rfl) .nil)))))))))))))))))))))))))))))))))))))))) (Nat.le_of_ble_eq_true (by kernel_rfl))

set_option maxHeartbeats 2000000 in
theorem ffb_1fkk (k a n x c q1 q2 y : Int) (z : Bool) (A : Abs) (k1 k2 : Nat) (ha : 0 ≤ k) (ha2 : k ≤ 4294967295) (ha3 : 0 ≤ a) (ha4 : a ≤ 4294967295) (hn0 : 0 ≤ n) (hn31 : n ≤ 31) (hn2 : n ≠ 32) (hb : hasB a n k = true) (hs : sdN k n = 1) : CodeOk Try.prog 5 (subC [true, true, true, true, true, false, true, true, true] (bodyOf Try.f9)) (mkSt 59 [(1, .nv (.one (.val (.int .u32 k)))), (4, .nv (.one (.ptr 2 0))), (7, .nv (.one (.ptr 3 0))), (8, .nv (.one (.val (.int .i64 (y))))), (9, bA z), (10, .nv (.one (.ptr 4 0)))] [.robox 57 [.root 1 0 true, .val (.int .i64 c)], .roabs A, .box 28 [.val (.int .u32 (0)), .val (.int .i64 (0))], .box 28 [.val (.int .u32 (q1)), .val (.int .i64 (q2))], .robox 55 [.val (.int .u32 a), .val (.int .i64 n), .val (.bool false), .val (.int .i64 x), .root 1 k1 true, .root 1 k2 true]]) .normal (mkSt 59 [(1, .nv (.one (.val (.int .u32 k)))), (4, .nv (.one (.ptr 2 0))), (7, .nv (.one (.ptr 3 0))), (8, .nv (.one (.val (.int .i64 (y))))), (9, bA z), (10, .nv (.one (.root 1 k2 true)))] [.robox 57 [.root 1 0 true, .val (.int .i64 c)], .roabs A, .box 28 [.val (.int .u32 (0)), .val (.int .i64 (0))], .box 28 [.val (.int .u32 (q1)), .val (.int .i64 (q2))], .robox 55 [.val (.int .u32 a), .val (.int .i64 n), .val (.bool false), .val (.int .i64 x), .root 1 k1 true, .root 1 k2 true]]) :=
  code_run Gs1_ok (orc := ⟨[true, true, false, false], []⟩) (obl := [true = true,
      (0 : Int) ≤ a,
      a ≤ (4294967295 : Int),
      (0 : Int) ≤ k,
      k ≤ (4294967295 : Int),
      hasB a n k = true,
      false = false,
      (n == (32 : Int)) = false,
      (0 : Int) ≤ k,
      k ≤ (4294967295 : Int),
      (0 : Int) ≤ n,
      n ≤ (31 : Int),
      sdN k n = (1 : Int),
      (0 : Nat) = (0 : Nat),
      k = k,
      a = a,
      n = n,
      false = false,
      x = x,
      (0 : Int) ≤ (1 : Int),
      (1 : Int) < (↑(2 : Nat) : Int),
      k = k,
      (0 : Nat) = (0 : Nat),
      (0 : Nat) = (0 : Nat),
      y = y,
      z = z,
      k2 = k2,
      (0 : Nat) = (0 : Nat),
      c = c,
      A = A,
      (0 : Int) = (0 : Int),
      (0 : Int) = (0 : Int),
      q1 = q1,
      q2 = q2,
      a = a,
      n = n,
      false = false,
      x = x,
      k1 = k1,
      k2 = k2]) (by kernel_rfl) (.cons (by rfl) (.cons (by assumption) (.cons (by assumption) (.cons (by assumption) (.cons (by assumption) (.cons (by assumption) (.cons (by rfl) (.cons (by exact decide_eq_false (by omega)) (.cons (by assumption) (.cons (by assumption) (.cons (by assumption) (.cons (by assumption) (.cons (by assumption) (.cons (by rfl) (.cons (by rfl) (.cons (by rfl) (.cons (by rfl) (.cons (by rfl) (.cons (by rfl) (.cons (by trivial) (.cons (by trivial) (.cons (by rfl) (.cons (by rfl) (.cons (by rfl) (.cons (by rfl) (.cons (by rfl) (.cons (by rfl) (.cons (by rfl) (.cons (by rfl) (.cons (by rfl) (.cons (by rfl) (.cons (by rfl) (.cons (by rfl) (.cons (by rfl) (.cons (by rfl) (.cons (by rfl) (.cons (by rfl) (.cons (by rfl) (.cons (by rfl) (.cons (by rfl) .nil)))))))))))))))))))))))))))))))))))))))) (Nat.le_of_ble_eq_true (by kernel_rfl))
end Go.Proofs.Ytfienpkogkepkaa

/- trie: Find's loop. No condition. -/
namespace Go.Proofs.Ytfienpkogkepkaa
set_option linter.unusedVariables false
set_option linter.unusedSimpArgs false
open Go.RowKit E
structure FAc where
  q1 : Int
  q2 : Int
  y : Int
  z : Bool
/-- What Find goes through. -/
def ffO (k : Int) : PT → FAc → FAc
  | .nil, A => A
  | .node a n u x l r, A => if hasB a n k = false then A else if n = 32 then (if u = true then ⟨a, n, x, true⟩ else A) else
    if sdN k n = 0 then ffO k l (if u = true then ⟨a, n, x, true⟩ else A) else ffO k r (if u = true then ⟨a, n, x, true⟩ else A)
def AdOk : PT → Prop
  | .nil => True
  | .node a n u x l r => (0 ≤ a ∧ a ≤ 4294967295) ∧ AdOk l ∧ AdOk r
abbrev ffL (k : Int) (A : FAc) (d : At) : List (Nat × SV) := [(1, .nv (.one (.val (.int .u32 k)))), (4, .nv (.one (.ptr 2 0))), (7, .nv (.one (.ptr 3 0))), (8, .nv (.one (.val (.int .i64 A.y)))), (9, bA A.z), (10, .nv (.one d))]
abbrev ffM (c : Int) (t : PT) (A : FAc) : List Seg := [fdTb c, .roabs (TA none t), fdPb 0 0, fdPb A.q1 A.q2]
def ffS (k c : Int) (t : PT) (A : FAc) (d : At) : E.St := mkSt 59 (ffL k A d) (ffM c t A)
def ffE (k c : Int) (t : PT) (A : FAc) : E.St := mkSt 59 [(1, .nv (.one (.val (.int .u32 k)))), (4, .nv (.one (.ptr 2 0))), (7, .nv (.one (.ptr 3 0))), (8, .nv (.one (.val (.int .i64 A.y)))), (9, bA A.z)] (ffM c t A)
theorem mapF (σ : At → At) (k : Int) (A : FAc) (d : At) (h : ∀ v, σ (.val v) = .val v) (M : List Seg) : (mkSt 59 (ffL k A d) M).tm.map (SV.map σ) = (mkSt 59 [(1, .nv (.one (.val (.int .u32 k)))), (4, .nv (.one (σ (.ptr 2 0)))), (7, .nv (.one (σ (.ptr 3 0)))), (8, .nv (.one (.val (.int .i64 A.y)))), (9, bA A.z), (10, .nv (.one (σ d)))] M).tm := by
  rw [show (mkSt 59 (ffL k A d) M).tm.map (SV.map σ) = (mkSt 59 [(1, .nv (.one (σ (.val (.int .u32 k))))), (4, .nv (.one (σ (.ptr 2 0)))), (7, .nv (.one (σ (.ptr 3 0)))), (8, .nv (.one (σ (.val (.int .i64 A.y))))), (9, .nv (.one (σ (.val (.bool A.z))))), (10, .nv (.one (σ d)))] M).tm from rfl, h, h, h]
noncomputable abbrev ffB : Code := subC [true, true, true, true, true, false, true, true, true] (bodyOf Try.f9)
theorem tran_list {m0 : Nat} {x y : E.St} {L : List Prop} (h : leSt m0 x y = L) (k : AllT L) (hm : m0 ≤ y.mem.length) : Tran m0 x y := Tran.le (by rw [h]; exact k) hm
/-- One round at a node. -/
theorem ff_round {t : PT} {k c : Int} {A : FAc} {j : Nat} {a n : Int} {u : Bool} {x : Int} {l r : PT} (hs : subAt t j = .node a n u x l r) {e : Ex} {A2 : FAc} {d : At}
    (hc : CodeOk Try.prog 5 ffB (mkSt 59 (ffL k A (.ptr 4 0)) (ffM c t A ++ [fdN a n u x (kidI 1 (j + 1) l) (kidI 1 (j + 1 + l.sz) r)])) e (mkSt 59 (ffL k A2 d) (ffM c t A2 ++ [fdN a n u x (kidI 1 (j + 1) l) (kidI 1 (j + 1 + l.sz) r)]))) :
    CodeOk Try.prog 2 ffB (ffS k c t A (.root 1 (j + 1) true)) e ⟨(mkSt 59 (ffL k A2 (unA 1 j 4 d)) []).tm, ffM c t A2 ++ [fdN a n u x (kidI 1 (j + 1) l) (kidI 1 (j + 1 + l.sz) r)]⟩ := by
  have e1 : (mkSt 59 (ffL k A (.root 1 (j + 1) true)) []).tm.map (SV.map (lkA 1 j 4)) = (mkSt 59 (ffL k A (.ptr 4 0)) []).tm := by rw [mapF _ _ _ _ (fun _ => rfl), lkA_hit]; rfl
  have e2 : (mkSt 59 (ffL k A2 d) []).tm.map (SV.map (unA 1 j 4)) = (mkSt 59 (ffL k A2 (unA 1 j 4 d)) []).tm := by rw [mapF _ _ _ _ (fun _ => rfl)]; rfl
  rw [← e2]
  refine look_code (h := 1) (k := j) (pin := none) (mem := ffM c t A) rfl hs (by simp) rfl ?_
  have hc' : CodeOk Try.prog 5 ffB ⟨(mkSt 59 (ffL k A (.root 1 (j + 1) true)) []).tm.map (SV.map (lkA 1 j 4)), ffM c t A ++ [fdN a n u x (kidI 1 (j + 1) l) (kidI 1 (j + 1 + l.sz) r)]⟩ e ⟨(mkSt 59 (ffL k A2 d) []).tm, ffM c t A2 ++ [fdN a n u x (kidI 1 (j + 1) l) (kidI 1 (j + 1 + l.sz) r)]⟩ := by rw [e1]; exact hc
  exact hc'
set_option maxRecDepth 100000 in
theorem ftrimK {k c a n : Int} {u : Bool} {x : Int} {t : PT} {A : FAc} {i : Nat} {cl cr : At} : Tran 2 ⟨(mkSt 59 (ffL k A (.root 1 i true)) []).tm, ffM c t A ++ [fdN a n u x cl cr]⟩ (ffS k c t A (.root 1 i true)) := tran_list (L := [k = k, (0 : Nat) = 0, (0 : Nat) = 0, A.y = A.y, A.z = A.z, i = i, (0 : Nat) = 0, c = c, TA none t = TA none t, (0 : Int) = 0, (0 : Int) = 0, A.q1 = A.q1, A.q2 = A.q2]) (by kernel_rfl) (by simp [AllT]) (Nat.le_of_ble_eq_true rfl)
set_option maxRecDepth 100000 in
theorem ftrimN {k c a n : Int} {u : Bool} {x : Int} {t : PT} {A : FAc} {i : Nat} {cl cr : At} : Tran 2 ⟨(mkSt 59 (ffL k A (.val (.pointer none))) []).tm, ffM c t A ++ [fdN a n u x cl cr]⟩ (ffS k c t A (.val (.pointer none))) := tran_list (L := [k = k, (0 : Nat) = 0, (0 : Nat) = 0, A.y = A.y, A.z = A.z, Value.pointer none = Value.pointer none, (0 : Nat) = 0, c = c, TA none t = TA none t, (0 : Int) = 0, (0 : Int) = 0, A.q1 = A.q1, A.q2 = A.q2]) (by kernel_rfl) (by simp [AllT]) (Nat.le_of_ble_eq_true rfl)
set_option maxRecDepth 100000 in
theorem ftrimE {k c : Int} {t : PT} {A : FAc} {d : At} : Tran 2 (ffS k c t A d) (ffE k c t A) := tran_list (L := [k = k, (0 : Nat) = 0, (0 : Nat) = 0, A.y = A.y, A.z = A.z, (0 : Nat) = 0, c = c, TA none t = TA none t, (0 : Int) = 0, (0 : Int) = 0, A.q1 = A.q1, A.q2 = A.q2]) (by kernel_rfl) (by simp [AllT]) (Nat.le_of_ble_eq_true rfl)
end Go.Proofs.Ytfienpkogkepkaa

/- trie: Find's loop, the whole. No condition. -/
namespace Go.Proofs.Ytfienpkogkepkaa
set_option linter.unusedVariables false
set_option linter.unusedSimpArgs false
open Go.RowKit E
theorem hasB_rng {a n k : Int} (h : hasB a n k = true) : 0 ≤ n ∧ n ≤ 32 := by
  unfold hasB at h
  rw [Bool.and_eq_true] at h
  exact (rgt_iff.1 h.1).1
set_option maxRecDepth 100000 in
theorem ff_loop {t : PT} {k c : Int} (hk : 0 ≤ k ∧ k ≤ 4294967295) : ∀ (sub : PT) (j : Nat) (A : FAc), (sub ≠ .nil → subAt t j = sub) → AdOk sub → LpOk Try.prog 2 ffB (ffS k c t A (kidI 1 j sub)) (.exit 0) (ffE k c t (ffO k sub A))
  | .nil, j, A, _, _ => LpOk.stop (by simp) (CodeOk.post (ffb_nil k 0 0 0 c A.q1 A.q2 A.y A.z (TA none t) 0 0) (ftrimE (d := .val (.pointer none))))
  | .node a n u x l r, j, A, hs, ho => by
    have hs := hs (by simp)
    obtain ⟨h1, h3, h4⟩ := ho
    have ihl := fun B => ff_loop (t := t) (c := c) hk l (j + 1) B (subAt_l hs) h3
    have ihr := fun B => ff_loop (t := t) (c := c) hk r (j + 1 + l.sz) B (subAt_r hs) h4
    cases hb : hasB a n k with
    | false =>
      rw [show ffO k (.node a n u x l r) A = A by rw [ffO, if_pos hb]]
      refine LpOk.stop (by simp) (CodeOk.post (CodeOk.post (ff_round (A2 := A) (d := .ptr 4 0) hs ?_) (ftrimK (i := j + 1))) ftrimE)
      cases l <;> cases r
      · exact ffb_nonn k a n x c A.q1 A.q2 A.y A.z (TA none t) (j + 1 + 1) 0 u hk.1 hk.2 h1.1 h1.2 hb
      · exact ffb_nonk k a n x c A.q1 A.q2 A.y A.z (TA none t) (j + 1 + 1) _ u hk.1 hk.2 h1.1 h1.2 hb
      · exact ffb_nokn k a n x c A.q1 A.q2 A.y A.z (TA none t) (j + 1 + 1) 0 u hk.1 hk.2 h1.1 h1.2 hb
      · exact ffb_nokk k a n x c A.q1 A.q2 A.y A.z (TA none t) (j + 1 + 1) _ u hk.1 hk.2 h1.1 h1.2 hb
    | true =>
      have hb' : ¬ hasB a n k = false := by rw [hb]; simp
      have hr := hasB_rng hb
      by_cases h32 : n = 32
      · subst h32
        cases u with
        | true =>
          rw [show ffO k (.node a 32 true x l r) A = ⟨a, 32, x, true⟩ by rw [ffO, if_neg hb', if_pos rfl]; rfl]
          refine LpOk.stop (by simp) (CodeOk.post (CodeOk.post (ff_round (A2 := ⟨a, 32, x, true⟩) (d := .ptr 4 0) hs ?_) (ftrimK (i := j + 1))) ftrimE)
          cases l <;> cases r
          · exact ffb_etnn k a x c A.q1 A.q2 A.y A.z (TA none t) (j + 1 + 1) 0 hk.1 hk.2 h1.1 h1.2 hb
          · exact ffb_etnk k a x c A.q1 A.q2 A.y A.z (TA none t) (j + 1 + 1) _ hk.1 hk.2 h1.1 h1.2 hb
          · exact ffb_etkn k a x c A.q1 A.q2 A.y A.z (TA none t) (j + 1 + 1) 0 hk.1 hk.2 h1.1 h1.2 hb
          · exact ffb_etkk k a x c A.q1 A.q2 A.y A.z (TA none t) (j + 1 + 1) _ hk.1 hk.2 h1.1 h1.2 hb
        | false =>
          rw [show ffO k (.node a 32 false x l r) A = A by rw [ffO, if_neg hb', if_pos rfl]; rfl]
          refine LpOk.stop (by simp) (CodeOk.post (CodeOk.post (ff_round (A2 := A) (d := .ptr 4 0) hs ?_) (ftrimK (i := j + 1))) ftrimE)
          cases l <;> cases r
          · exact ffb_efnn k a x c A.q1 A.q2 A.y A.z (TA none t) (j + 1 + 1) 0 hk.1 hk.2 h1.1 h1.2 hb
          · exact ffb_efnk k a x c A.q1 A.q2 A.y A.z (TA none t) (j + 1 + 1) _ hk.1 hk.2 h1.1 h1.2 hb
          · exact ffb_efkn k a x c A.q1 A.q2 A.y A.z (TA none t) (j + 1 + 1) 0 hk.1 hk.2 h1.1 h1.2 hb
          · exact ffb_efkk k a x c A.q1 A.q2 A.y A.z (TA none t) (j + 1 + 1) _ hk.1 hk.2 h1.1 h1.2 hb
      · have hn : 0 ≤ n ∧ n ≤ 31 := ⟨hr.1, by omega⟩
        rcases sdN_01 k n with hd | hd
        · cases u with
          | true =>
            rw [show ffO k (.node a n true x l r) A = ffO k l ⟨a, n, x, true⟩ by rw [ffO, if_neg hb', if_neg h32, if_pos hd]; rfl]
            refine LpOk.step ?_ (ihl _)
            cases l
            · refine CodeOk.post (ff_round (A2 := ⟨a, n, x, true⟩) (d := .val (.pointer none)) hs ?_) (ftrimN (i := 0))
              cases r
              · exact ffb_0tnn k a n x c A.q1 A.q2 A.y A.z (TA none t) (j + 1 + 1) 0 hk.1 hk.2 h1.1 h1.2 hn.1 hn.2 h32 hb hd
              · exact ffb_0tnk k a n x c A.q1 A.q2 A.y A.z (TA none t) (j + 1 + 1) _ hk.1 hk.2 h1.1 h1.2 hn.1 hn.2 h32 hb hd
            · refine CodeOk.post (ff_round (A2 := ⟨a, n, x, true⟩) (d := .root 1 (j + 1 + 1) true) hs ?_) (ftrimK (i := j + 1 + 1))
              cases r
              · exact ffb_0tkn k a n x c A.q1 A.q2 A.y A.z (TA none t) (j + 1 + 1) 0 hk.1 hk.2 h1.1 h1.2 hn.1 hn.2 h32 hb hd
              · exact ffb_0tkk k a n x c A.q1 A.q2 A.y A.z (TA none t) (j + 1 + 1) _ hk.1 hk.2 h1.1 h1.2 hn.1 hn.2 h32 hb hd
          | false =>
            rw [show ffO k (.node a n false x l r) A = ffO k l A by rw [ffO, if_neg hb', if_neg h32, if_pos hd]; rfl]
            refine LpOk.step ?_ (ihl _)
            cases l
            · refine CodeOk.post (ff_round (A2 := A) (d := .val (.pointer none)) hs ?_) (ftrimN (i := 0))
              cases r
              · exact ffb_0fnn k a n x c A.q1 A.q2 A.y A.z (TA none t) (j + 1 + 1) 0 hk.1 hk.2 h1.1 h1.2 hn.1 hn.2 h32 hb hd
              · exact ffb_0fnk k a n x c A.q1 A.q2 A.y A.z (TA none t) (j + 1 + 1) _ hk.1 hk.2 h1.1 h1.2 hn.1 hn.2 h32 hb hd
            · refine CodeOk.post (ff_round (A2 := A) (d := .root 1 (j + 1 + 1) true) hs ?_) (ftrimK (i := j + 1 + 1))
              cases r
              · exact ffb_0fkn k a n x c A.q1 A.q2 A.y A.z (TA none t) (j + 1 + 1) 0 hk.1 hk.2 h1.1 h1.2 hn.1 hn.2 h32 hb hd
              · exact ffb_0fkk k a n x c A.q1 A.q2 A.y A.z (TA none t) (j + 1 + 1) _ hk.1 hk.2 h1.1 h1.2 hn.1 hn.2 h32 hb hd
        · cases u with
          | true =>
            rw [show ffO k (.node a n true x l r) A = ffO k r ⟨a, n, x, true⟩ by rw [ffO, if_neg hb', if_neg h32, if_neg (by omega)]; rfl]
            refine LpOk.step ?_ (ihr _)
            cases r
            · refine CodeOk.post (ff_round (A2 := ⟨a, n, x, true⟩) (d := .val (.pointer none)) hs ?_) (ftrimN (i := 0))
              cases l
              · exact ffb_1tnn k a n x c A.q1 A.q2 A.y A.z (TA none t) (j + 1 + 1) 0 hk.1 hk.2 h1.1 h1.2 hn.1 hn.2 h32 hb hd
              · exact ffb_1tkn k a n x c A.q1 A.q2 A.y A.z (TA none t) (j + 1 + 1) 0 hk.1 hk.2 h1.1 h1.2 hn.1 hn.2 h32 hb hd
            · refine CodeOk.post (ff_round (A2 := ⟨a, n, x, true⟩) (d := .root 1 (j + 1 + l.sz + 1) true) hs ?_) (ftrimK (i := j + 1 + l.sz + 1))
              cases l
              · exact ffb_1tnk k a n x c A.q1 A.q2 A.y A.z (TA none t) (j + 1 + 1) _ hk.1 hk.2 h1.1 h1.2 hn.1 hn.2 h32 hb hd
              · exact ffb_1tkk k a n x c A.q1 A.q2 A.y A.z (TA none t) (j + 1 + 1) _ hk.1 hk.2 h1.1 h1.2 hn.1 hn.2 h32 hb hd
          | false =>
            rw [show ffO k (.node a n false x l r) A = ffO k r A by rw [ffO, if_neg hb', if_neg h32, if_neg (by omega)]; rfl]
            refine LpOk.step ?_ (ihr _)
            cases r
            · refine CodeOk.post (ff_round (A2 := A) (d := .val (.pointer none)) hs ?_) (ftrimN (i := 0))
              cases l
              · exact ffb_1fnn k a n x c A.q1 A.q2 A.y A.z (TA none t) (j + 1 + 1) 0 hk.1 hk.2 h1.1 h1.2 hn.1 hn.2 h32 hb hd
              · exact ffb_1fkn k a n x c A.q1 A.q2 A.y A.z (TA none t) (j + 1 + 1) 0 hk.1 hk.2 h1.1 h1.2 hn.1 hn.2 h32 hb hd
            · refine CodeOk.post (ff_round (A2 := A) (d := .root 1 (j + 1 + l.sz + 1) true) hs ?_) (ftrimK (i := j + 1 + l.sz + 1))
              cases l
              · exact ffb_1fnk k a n x c A.q1 A.q2 A.y A.z (TA none t) (j + 1 + 1) _ hk.1 hk.2 h1.1 h1.2 hn.1 hn.2 h32 hb hd
              · exact ffb_1fkk k a n x c A.q1 A.q2 A.y A.z (TA none t) (j + 1 + 1) _ hk.1 hk.2 h1.1 h1.2 hn.1 hn.2 h32 hb hd
end Go.Proofs.Ytfienpkogkepkaa

/- Runs of Go code, as printed by a program: no condition beyond those that each states. -/
namespace Go.Proofs.Ytfienpkogkepkaa
set_option linter.unusedVariables false
set_option linter.unusedSimpArgs false
set_option maxRecDepth 100000
open Go.RowKit E
attribute [local irreducible] wkL apG TA bl8 bl32 wdN msk prP inP sdN prT covB comN comA layP layK LyOk FkOk rgt hasB subAt
set_option maxHeartbeats 2000000 in
theorem ff_0 (k c q1 q2 y : Int) (z : Bool) (A : Abs) : CodeOk Try.prog 2 (subC [false] (bodyOf Try.f9)) (mkSt 59 [(0, .nv (.one (.ptr 0 0))), (1, .nv (.one (.val (.int .u32 k))))] [.robox 57 [.root 1 0 true, .val (.int .i64 c)], .roabs A]) .normal (mkSt 59 [(0, .nv (.one (.ptr 0 0))), (1, .nv (.one (.val (.int .u32 k)))), (4, .nv (.one (.ptr 2 0)))] [.robox 57 [.root 1 0 true, .val (.int .i64 c)], .roabs A, .box 28 [.val (.int .u32 (0)), .val (.int .i64 (0))]]) :=
  code_run Gt3_ok (orc := ⟨[], []⟩) (obl := [(0 : Nat) = (0 : Nat),
      k = k,
      (0 : Nat) = (0 : Nat),
      (0 : Nat) = (0 : Nat),
      c = c,
      A = A,
      (0 : Int) = (0 : Int),
      (0 : Int) = (0 : Int)]) (by kernel_rfl) (.cons (by rfl) (.cons (by rfl) (.cons (by rfl) (.cons (by rfl) (.cons (by rfl) (.cons (by rfl) (.cons (by rfl) (.cons (by rfl) .nil)))))))) (Nat.le_of_ble_eq_true (by kernel_rfl))

set_option maxHeartbeats 2000000 in
theorem ff_1 (k c q1 q2 y : Int) (z : Bool) (A : Abs) : CodeOk Try.prog 2 (subC [true, false] (bodyOf Try.f9)) (mkSt 59 [(0, .nv (.one (.ptr 0 0))), (1, .nv (.one (.val (.int .u32 k)))), (4, .nv (.one (.ptr 2 0)))] [.robox 57 [.root 1 0 true, .val (.int .i64 c)], .roabs A, .box 28 [.val (.int .u32 (0)), .val (.int .i64 (0))]]) .normal (mkSt 59 [(0, .nv (.one (.ptr 0 0))), (1, .nv (.one (.val (.int .u32 k)))), (4, .nv (.one (.ptr 2 0))), (7, .nv (.one (.ptr 3 0)))] [.robox 57 [.root 1 0 true, .val (.int .i64 c)], .roabs A, .box 28 [.val (.int .u32 (0)), .val (.int .i64 (0))], .box 28 [.val (.int .u32 (0)), .val (.int .i64 (0))]]) :=
  code_run Gt3_ok (orc := ⟨[], []⟩) (obl := [(0 : Nat) = (0 : Nat),
      k = k,
      (0 : Nat) = (0 : Nat),
      (0 : Nat) = (0 : Nat),
      (0 : Nat) = (0 : Nat),
      c = c,
      A = A,
      (0 : Int) = (0 : Int),
      (0 : Int) = (0 : Int),
      (0 : Int) = (0 : Int),
      (0 : Int) = (0 : Int)]) (by kernel_rfl) (.cons (by rfl) (.cons (by rfl) (.cons (by rfl) (.cons (by rfl) (.cons (by rfl) (.cons (by rfl) (.cons (by rfl) (.cons (by rfl) (.cons (by rfl) (.cons (by rfl) (.cons (by rfl) .nil))))))))))) (Nat.le_of_ble_eq_true (by kernel_rfl))

set_option maxHeartbeats 2000000 in
theorem ff_2 (k c q1 q2 y : Int) (z : Bool) (A : Abs) : CodeOk Try.prog 2 (subC [true, true, false] (bodyOf Try.f9)) (mkSt 59 [(0, .nv (.one (.ptr 0 0))), (1, .nv (.one (.val (.int .u32 k)))), (4, .nv (.one (.ptr 2 0))), (7, .nv (.one (.ptr 3 0)))] [.robox 57 [.root 1 0 true, .val (.int .i64 c)], .roabs A, .box 28 [.val (.int .u32 (0)), .val (.int .i64 (0))], .box 28 [.val (.int .u32 (0)), .val (.int .i64 (0))]]) .normal (mkSt 59 [(0, .nv (.one (.ptr 0 0))), (1, .nv (.one (.val (.int .u32 k)))), (4, .nv (.one (.ptr 2 0))), (7, .nv (.one (.ptr 3 0))), (8, .nv (.one (.val (.int .i64 0))))] [.robox 57 [.root 1 0 true, .val (.int .i64 c)], .roabs A, .box 28 [.val (.int .u32 (0)), .val (.int .i64 (0))], .box 28 [.val (.int .u32 (0)), .val (.int .i64 (0))]]) :=
  code_run Gt3_ok (orc := ⟨[], []⟩) (obl := [(0 : Nat) = (0 : Nat),
      k = k,
      (0 : Nat) = (0 : Nat),
      (0 : Nat) = (0 : Nat),
      (0 : Int) = (0 : Int),
      (0 : Nat) = (0 : Nat),
      c = c,
      A = A,
      (0 : Int) = (0 : Int),
      (0 : Int) = (0 : Int),
      (0 : Int) = (0 : Int),
      (0 : Int) = (0 : Int)]) (by kernel_rfl) (.cons (by rfl) (.cons (by rfl) (.cons (by rfl) (.cons (by rfl) (.cons (by rfl) (.cons (by rfl) (.cons (by rfl) (.cons (by rfl) (.cons (by rfl) (.cons (by rfl) (.cons (by rfl) (.cons (by rfl) .nil)))))))))))) (Nat.le_of_ble_eq_true (by kernel_rfl))

set_option maxHeartbeats 2000000 in
theorem ff_3 (k c q1 q2 y : Int) (z : Bool) (A : Abs) : CodeOk Try.prog 2 (subC [true, true, true, false] (bodyOf Try.f9)) (mkSt 59 [(0, .nv (.one (.ptr 0 0))), (1, .nv (.one (.val (.int .u32 k)))), (4, .nv (.one (.ptr 2 0))), (7, .nv (.one (.ptr 3 0))), (8, .nv (.one (.val (.int .i64 0))))] [.robox 57 [.root 1 0 true, .val (.int .i64 c)], .roabs A, .box 28 [.val (.int .u32 (0)), .val (.int .i64 (0))], .box 28 [.val (.int .u32 (0)), .val (.int .i64 (0))]]) .normal (mkSt 59 [(0, .nv (.one (.ptr 0 0))), (1, .nv (.one (.val (.int .u32 k)))), (4, .nv (.one (.ptr 2 0))), (7, .nv (.one (.ptr 3 0))), (8, .nv (.one (.val (.int .i64 0)))), (9, bA false)] [.robox 57 [.root 1 0 true, .val (.int .i64 c)], .roabs A, .box 28 [.val (.int .u32 (0)), .val (.int .i64 (0))], .box 28 [.val (.int .u32 (0)), .val (.int .i64 (0))]]) :=
  code_run Gt3_ok (orc := ⟨[], []⟩) (obl := [(0 : Nat) = (0 : Nat),
      k = k,
      (0 : Nat) = (0 : Nat),
      (0 : Nat) = (0 : Nat),
      (0 : Int) = (0 : Int),
      false = false,
      (0 : Nat) = (0 : Nat),
      c = c,
      A = A,
      (0 : Int) = (0 : Int),
      (0 : Int) = (0 : Int),
      (0 : Int) = (0 : Int),
      (0 : Int) = (0 : Int)]) (by kernel_rfl) (.cons (by rfl) (.cons (by rfl) (.cons (by rfl) (.cons (by rfl) (.cons (by rfl) (.cons (by rfl) (.cons (by rfl) (.cons (by rfl) (.cons (by rfl) (.cons (by rfl) (.cons (by rfl) (.cons (by rfl) (.cons (by rfl) .nil))))))))))))) (Nat.le_of_ble_eq_true (by kernel_rfl))

set_option maxHeartbeats 2000000 in
theorem ff_4 (k c q1 q2 y : Int) (z : Bool) (A : Abs) : CodeOk Try.prog 2 (subC [true, true, true, true, false] (bodyOf Try.f9)) (mkSt 59 [(0, .nv (.one (.ptr 0 0))), (1, .nv (.one (.val (.int .u32 k)))), (4, .nv (.one (.ptr 2 0))), (7, .nv (.one (.ptr 3 0))), (8, .nv (.one (.val (.int .i64 0)))), (9, bA false)] [.robox 57 [.root 1 0 true, .val (.int .i64 c)], .roabs A, .box 28 [.val (.int .u32 (0)), .val (.int .i64 (0))], .box 28 [.val (.int .u32 (0)), .val (.int .i64 (0))]]) .normal (mkSt 59 [(0, .nv (.one (.ptr 0 0))), (1, .nv (.one (.val (.int .u32 k)))), (4, .nv (.one (.ptr 2 0))), (7, .nv (.one (.ptr 3 0))), (8, .nv (.one (.val (.int .i64 0)))), (9, bA false)] [.robox 57 [.root 1 0 true, .val (.int .i64 c)], .roabs A, .box 28 [.val (.int .u32 (0)), .val (.int .i64 (0))], .box 28 [.val (.int .u32 (0)), .val (.int .i64 (0))]]) :=
  code_run Gt3_ok (orc := ⟨[false], []⟩) (obl := [false = false,
      (0 : Nat) = (0 : Nat),
      k = k,
      (0 : Nat) = (0 : Nat),
      (0 : Nat) = (0 : Nat),
      (0 : Int) = (0 : Int),
      false = false,
      (0 : Nat) = (0 : Nat),
      c = c,
      A = A,
      (0 : Int) = (0 : Int),
      (0 : Int) = (0 : Int),
      (0 : Int) = (0 : Int),
      (0 : Int) = (0 : Int)]) (by kernel_rfl) (.cons (by rfl) (.cons (by rfl) (.cons (by rfl) (.cons (by rfl) (.cons (by rfl) (.cons (by rfl) (.cons (by rfl) (.cons (by rfl) (.cons (by rfl) (.cons (by rfl) (.cons (by rfl) (.cons (by rfl) (.cons (by rfl) (.cons (by rfl) .nil)))))))))))))) (Nat.le_of_ble_eq_true (by kernel_rfl))

set_option maxHeartbeats 2000000 in
theorem ff_6 (k c q1 q2 y : Int) (z : Bool) (A : Abs) : CodeOk Try.prog 2 (subC [true, true, true, true, true, false, false] (bodyOf Try.f9)) (mkSt 59 [(0, .nv (.one (.ptr 0 0))), (1, .nv (.one (.val (.int .u32 k)))), (4, .nv (.one (.ptr 2 0))), (7, .nv (.one (.ptr 3 0))), (8, .nv (.one (.val (.int .i64 0)))), (9, bA false)] [.robox 57 [.root 1 0 true, .val (.int .i64 c)], .roabs A, .box 28 [.val (.int .u32 (0)), .val (.int .i64 (0))], .box 28 [.val (.int .u32 (0)), .val (.int .i64 (0))]]) .normal (mkSt 59 [(1, .nv (.one (.val (.int .u32 k)))), (4, .nv (.one (.ptr 2 0))), (7, .nv (.one (.ptr 3 0))), (8, .nv (.one (.val (.int .i64 0)))), (9, bA false), (10, .nv (.one (.root 1 0 true)))] [.robox 57 [.root 1 0 true, .val (.int .i64 c)], .roabs A, .box 28 [.val (.int .u32 (0)), .val (.int .i64 (0))], .box 28 [.val (.int .u32 (0)), .val (.int .i64 (0))]]) :=
  code_run Gt3_ok (orc := ⟨[], []⟩) (obl := [k = k,
      (0 : Nat) = (0 : Nat),
      (0 : Nat) = (0 : Nat),
      (0 : Int) = (0 : Int),
      false = false,
      (0 : Nat) = (0 : Nat),
      (0 : Nat) = (0 : Nat),
      c = c,
      A = A,
      (0 : Int) = (0 : Int),
      (0 : Int) = (0 : Int),
      (0 : Int) = (0 : Int),
      (0 : Int) = (0 : Int)]) (by kernel_rfl) (.cons (by rfl) (.cons (by rfl) (.cons (by rfl) (.cons (by rfl) (.cons (by rfl) (.cons (by rfl) (.cons (by rfl) (.cons (by rfl) (.cons (by rfl) (.cons (by rfl) (.cons (by rfl) (.cons (by rfl) (.cons (by rfl) .nil))))))))))))) (Nat.le_of_ble_eq_true (by kernel_rfl))

set_option maxHeartbeats 2000000 in
theorem ff_12 (k c q1 q2 y : Int) (z : Bool) (A : Abs) : CodeOk Try.prog 2 (subC [true, true, true, true, true, true] (bodyOf Try.f9)) (mkSt 59 [(1, .nv (.one (.val (.int .u32 k)))), (4, .nv (.one (.ptr 2 0))), (7, .nv (.one (.ptr 3 0))), (8, .nv (.one (.val (.int .i64 y)))), (9, bA z)] [.robox 57 [.root 1 0 true, .val (.int .i64 c)], .roabs A, .box 28 [.val (.int .u32 (0)), .val (.int .i64 (0))], .box 28 [.val (.int .u32 (q1)), .val (.int .i64 (q2))]]) .ret (mkSt 59 [(4, .nv (.one (.ptr 2 0))), (5, .nv (.one (.val (.int .i64 y)))), (6, bA z)] [.robox 57 [.root 1 0 true, .val (.int .i64 c)], .roabs A, .box 28 [.val (.int .u32 (q1)), .val (.int .i64 (q2))]]) :=
  code_run Gt3_ok (orc := ⟨[], []⟩) (obl := [(0 : Nat) = (0 : Nat),
      y = y,
      z = z,
      (0 : Nat) = (0 : Nat),
      c = c,
      A = A,
      q1 = q1,
      q2 = q2]) (by kernel_rfl) (.cons (by rfl) (.cons (by rfl) (.cons (by rfl) (.cons (by rfl) (.cons (by rfl) (.cons (by rfl) (.cons (by rfl) (.cons (by rfl) .nil)))))))) (Nat.le_of_ble_eq_true (by kernel_rfl))

set_option maxHeartbeats 2000000 in
theorem ff_none (k : Int) : FnOk Try.prog 9 ([.nv (.one (.val (.pointer none))), .nv (.one (.val (.int .u32 k)))]) ([]) (.tup [.agg [.val (.int .u32 0), .val (.int .i64 0)], .one (.val (.int .i64 0)), .one (.val (.bool false))]) ([]) :=
  fn_run Gt3_ok Try.func9 (orc := ⟨[true], []⟩) (obl := [true = true,
      (0 : Int) = (0 : Int),
      (0 : Int) = (0 : Int),
      (0 : Int) = (0 : Int),
      false = false]) (by kernel_rfl) (.cons (by rfl) (.cons (by rfl) (.cons (by rfl) (.cons (by rfl) (.cons (by rfl) .nil))))) (Nat.le_of_ble_eq_true (by kernel_rfl))
end Go.Proofs.Ytfienpkogkepkaa

/- trie: Find, the whole. No condition. -/
namespace Go.Proofs.Ytfienpkogkepkaa
set_option linter.unusedVariables false
set_option linter.unusedSimpArgs false
open Go.RowKit E
noncomputable abbrev ffC (p : List Bool) : Code := subC p (bodyOf Try.f9)
set_option maxRecDepth 100000 in
theorem ff_body : bodyOf Try.f9 = .seq (ffC [false]) (.seq (ffC [true, false]) (.seq (ffC [true, true, false]) (.seq (ffC [true, true, true, false]) (.seq (ffC [true, true, true, true, false])
  (.seq (.seq (ffC [true, true, true, true, true, false, false]) (.block 0 (.loop ffB))) (ffC [true, true, true, true, true, true])))))) := by kernel_rfl
def ffTm (k : Int) : List SV := [.nv (.one (.ptr 0 0)), .nv (.one (.val (.int .u32 k)))] ++ List.replicate 57 .any
def ff0 : FAc := ⟨0, 0, 0, false⟩
set_option maxRecDepth 100000 in
theorem ff_start {k c : Int} {a n : Int} {u : Bool} {x : Int} {l r : PT} : Tran 2 (mkSt 59 [(1, .nv (.one (.val (.int .u32 k)))), (4, .nv (.one (.ptr 2 0))), (7, .nv (.one (.ptr 3 0))), (8, .nv (.one (.val (.int .i64 0)))), (9, bA false), (10, .nv (.one (.root 1 0 true)))] [fdTb c, .roabs (TA none (.node a n u x l r)), fdPb 0 0, fdPb 0 0]) (ffS k c (.node a n u x l r) ff0 (.root 1 1 true)) := (rt_tran (h := 1) (pin := none) rfl).eq (by kernel_rfl)
set_option maxRecDepth 100000 in
theorem fnFindA {k c : Int} (hk : 0 ≤ k ∧ k ≤ 4294967295) {a n : Int} {u : Bool} {x : Int} {l r : PT} (hok : AdOk (.node a n u x l r)) :
    FnOk Try.prog 9 [.nv (.one (.ptr 0 0)), .nv (.one (.val (.int .u32 k)))] [fdTb c, .roabs (TA none (.node a n u x l r))]
      (.tup [.agg [.val (.int .u32 (ffO k (.node a n u x l r) ff0).q1), .val (.int .i64 (ffO k (.node a n u x l r) ff0).q2)], .one (.val (.int .i64 (ffO k (.node a n u x l r) ff0).y)), .one (.val (.bool (ffO k (.node a n u x l r) ff0).z))])
      [fdTb c, .roabs (TA none (.node a n u x l r)), fdPb (ffO k (.node a n u x l r) ff0).q1 (ffO k (.node a n u x l r) ff0).q2] := by
  have hl := LpOk.code (ff_loop (t := .node a n u x l r) (c := c) hk (.node a n u x l r) 0 ff0 (fun _ => subAt_0) hok)
  generalize hB : ffO k (.node a n u x l r) ff0 = B at hl ⊢
  have key : CodeOk Try.prog 2 (bodyOf Try.f9) ⟨ffTm k, [fdTb c, .roabs (TA none (.node a n u x l r))]⟩ .ret (mkSt 59 [(4, .nv (.one (.ptr 2 0))), (5, .nv (.one (.val (.int .i64 B.y)))), (6, bA B.z)] [fdTb c, .roabs (TA none (.node a n u x l r)), fdPb B.q1 B.q2]) := by
    rw [ff_body]
    refine CodeOk.seq (ff_0 k c 0 0 0 false (TA none (.node a n u x l r))) (CodeOk.seq (ff_1 k c 0 0 0 false (TA none (.node a n u x l r))) (CodeOk.seq (ff_2 k c 0 0 0 false (TA none (.node a n u x l r))) (CodeOk.seq (ff_3 k c 0 0 0 false (TA none (.node a n u x l r))) (CodeOk.seq (ff_4 k c 0 0 0 false (TA none (.node a n u x l r))) (CodeOk.seq (CodeOk.seq (CodeOk.post (ff_6 k c 0 0 0 false (TA none (.node a n u x l r))) ff_start) (CodeOk.blockX hl)) ?_)))))
    exact ff_12 k c B.q1 B.q2 B.y B.z (TA none (.node a n u x l r))
  exact fn_of_code (c := bodyOf Try.f9) (tm := ffTm k) (o := []) Try.func9 (by kernel_rfl) (by kernel_rfl) key (.inl rfl) (by kernel_rfl) trivial
end Go.Proofs.Ytfienpkogkepkaa
