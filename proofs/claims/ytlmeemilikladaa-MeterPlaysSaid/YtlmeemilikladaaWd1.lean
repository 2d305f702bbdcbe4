/- Runs of Go code, as printed by a program: no condition beyond those that each states. -/
import Derived.Test.YtlmeemilikladaaWd0
import Derived.Test.YtlmeemilikladaaChecked
import Derived.KernelRfl
namespace Go.Proofs.Ytlmeemilikladaa
set_option linter.unusedVariables false
set_option linter.unusedSimpArgs false
set_option maxRecDepth 100000
open Go.RowKit E
set_option maxHeartbeats 2000000 in
theorem of_pure (a h : Int) (hh : IntKind.wrap IntKind.u64 (Int.tdiv a 4294967296) = h) : PureOk Try.prog 20 ([uA a]) (.nv (wN (Int.tmod a 4294967296) h 0 0)) :=
  pure_run G0_ok Try.func20 (orc := ⟨[], []⟩) (obl := [(4294967296 : Int) ≠ (0 : Int),
      (4294967296 : Int) ≠ (0 : Int),
      Int.tmod a (4294967296 : Int) = Int.tmod a (4294967296 : Int),
      IntKind.wrap IntKind.u64 (Int.tdiv a (4294967296 : Int)) = h,
      (0 : Int) = (0 : Int),
      (0 : Int) = (0 : Int)]) (by kernel_rfl) (.cons (by trivial) (.cons (by trivial) (.cons (by rfl) (.cons (by assumption) (.cons (by rfl) (.cons (by rfl) .nil))))))

set_option maxHeartbeats 2000000 in
theorem plus_pure (a0 a1 a2 a3 b0 b1 b2 b3 c0 c1 c2 c3 k0 k1 k2 k3 r0 r1 r2 r3 : Int) (e0 : IntKind.wrap IntKind.u64 (IntKind.wrap IntKind.u64 (a0 + b0) + 0) = c0) (g0 : IntKind.wrap IntKind.u64 (Int.tdiv c0 4294967296) = k0) (f0 : Int.tmod c0 4294967296 = r0) (e1 : IntKind.wrap IntKind.u64 (IntKind.wrap IntKind.u64 (a1 + b1) + k0) = c1) (g1 : IntKind.wrap IntKind.u64 (Int.tdiv c1 4294967296) = k1) (f1 : Int.tmod c1 4294967296 = r1) (e2 : IntKind.wrap IntKind.u64 (IntKind.wrap IntKind.u64 (a2 + b2) + k1) = c2) (g2 : IntKind.wrap IntKind.u64 (Int.tdiv c2 4294967296) = k2) (f2 : Int.tmod c2 4294967296 = r2) (e3 : IntKind.wrap IntKind.u64 (IntKind.wrap IntKind.u64 (a3 + b3) + k2) = c3) (g3 : IntKind.wrap IntKind.u64 (Int.tdiv c3 4294967296) = k3) (f3 : Int.tmod c3 4294967296 = r3) : PureOk Try.prog 21 ([.nv (wN a0 a1 a2 a3), .nv (wN b0 b1 b2 b3)]) (.nv (wN r0 r1 r2 r3)) :=
  pure_run G0_ok Try.func21 (orc := ⟨[true, true, true, true, false], [unroll 6]⟩) (obl := [decide ((0 : Int) < (4 : Int)) = true,
      (0 : Int) ≤ (0 : Int),
      (0 : Int) < (↑(4 : Nat) : Int),
      (0 : Int) ≤ (0 : Int),
      (0 : Int) < (↑(4 : Nat) : Int),
      (4294967296 : Int) ≠ (0 : Int),
      (0 : Int) ≤ (0 : Int),
      (0 : Int) < (↑(4 : Nat) : Int),
      (4294967296 : Int) ≠ (0 : Int),
      decide (IntKind.wrap IntKind.i64 ((0 : Int) + (1 : Int)) < (4 : Int)) = true,
      (0 : Int) ≤ IntKind.wrap IntKind.i64 ((0 : Int) + (1 : Int)),
      IntKind.wrap IntKind.i64 ((0 : Int) + (1 : Int)) < (↑(4 : Nat) : Int),
      (0 : Int) ≤ IntKind.wrap IntKind.i64 ((0 : Int) + (1 : Int)),
      IntKind.wrap IntKind.i64 ((0 : Int) + (1 : Int)) < (↑(4 : Nat) : Int),
      (4294967296 : Int) ≠ (0 : Int),
      (0 : Int) ≤ IntKind.wrap IntKind.i64 ((0 : Int) + (1 : Int)),
      IntKind.wrap IntKind.i64 ((0 : Int) + (1 : Int)) < (↑(4 : Nat) : Int),
      (4294967296 : Int) ≠ (0 : Int),
      decide (IntKind.wrap IntKind.i64 (IntKind.wrap IntKind.i64 ((0 : Int) + (1 : Int)) + (1 : Int)) < (4 : Int)) = true,
      (0 : Int) ≤ IntKind.wrap IntKind.i64 (IntKind.wrap IntKind.i64 ((0 : Int) + (1 : Int)) + (1 : Int)),
      IntKind.wrap IntKind.i64 (IntKind.wrap IntKind.i64 ((0 : Int) + (1 : Int)) + (1 : Int)) < (↑(4 : Nat) : Int),
      (0 : Int) ≤ IntKind.wrap IntKind.i64 (IntKind.wrap IntKind.i64 ((0 : Int) + (1 : Int)) + (1 : Int)),
      IntKind.wrap IntKind.i64 (IntKind.wrap IntKind.i64 ((0 : Int) + (1 : Int)) + (1 : Int)) < (↑(4 : Nat) : Int),
      (4294967296 : Int) ≠ (0 : Int),
      (0 : Int) ≤ IntKind.wrap IntKind.i64 (IntKind.wrap IntKind.i64 ((0 : Int) + (1 : Int)) + (1 : Int)),
      IntKind.wrap IntKind.i64 (IntKind.wrap IntKind.i64 ((0 : Int) + (1 : Int)) + (1 : Int)) < (↑(4 : Nat) : Int),
      (4294967296 : Int) ≠ (0 : Int),
      decide (IntKind.wrap IntKind.i64 (IntKind.wrap IntKind.i64 (IntKind.wrap IntKind.i64 ((0 : Int) + (1 : Int)) + (1 : Int)) + (1 : Int)) < (4 : Int)) = true,
      (0 : Int) ≤ IntKind.wrap IntKind.i64 (IntKind.wrap IntKind.i64 (IntKind.wrap IntKind.i64 ((0 : Int) + (1 : Int)) + (1 : Int)) + (1 : Int)),
      IntKind.wrap IntKind.i64 (IntKind.wrap IntKind.i64 (IntKind.wrap IntKind.i64 ((0 : Int) + (1 : Int)) + (1 : Int)) + (1 : Int)) < (↑(4 : Nat) : Int),
      (0 : Int) ≤ IntKind.wrap IntKind.i64 (IntKind.wrap IntKind.i64 (IntKind.wrap IntKind.i64 ((0 : Int) + (1 : Int)) + (1 : Int)) + (1 : Int)),
      IntKind.wrap IntKind.i64 (IntKind.wrap IntKind.i64 (IntKind.wrap IntKind.i64 ((0 : Int) + (1 : Int)) + (1 : Int)) + (1 : Int)) < (↑(4 : Nat) : Int),
      (4294967296 : Int) ≠ (0 : Int),
      (0 : Int) ≤ IntKind.wrap IntKind.i64 (IntKind.wrap IntKind.i64 (IntKind.wrap IntKind.i64 ((0 : Int) + (1 : Int)) + (1 : Int)) + (1 : Int)),
      IntKind.wrap IntKind.i64 (IntKind.wrap IntKind.i64 (IntKind.wrap IntKind.i64 ((0 : Int) + (1 : Int)) + (1 : Int)) + (1 : Int)) < (↑(4 : Nat) : Int),
      (4294967296 : Int) ≠ (0 : Int),
      decide (IntKind.wrap IntKind.i64 (IntKind.wrap IntKind.i64 (IntKind.wrap IntKind.i64 (IntKind.wrap IntKind.i64 ((0 : Int) + (1 : Int)) + (1 : Int)) + (1 : Int)) + (1 : Int)) < (4 : Int)) = false,
      Int.tmod (IntKind.wrap IntKind.u64 (IntKind.wrap IntKind.u64 (a0 + b0) + (0 : Int))) (4294967296 : Int) = r0,
      Int.tmod (IntKind.wrap IntKind.u64 (IntKind.wrap IntKind.u64 (a1 + b1) + IntKind.wrap IntKind.u64 (Int.tdiv (IntKind.wrap IntKind.u64 (IntKind.wrap IntKind.u64 (a0 + b0) + (0 : Int))) (4294967296 : Int)))) (4294967296 : Int) = r1,
      Int.tmod (IntKind.wrap IntKind.u64 (IntKind.wrap IntKind.u64 (a2 + b2) + IntKind.wrap IntKind.u64 (Int.tdiv (IntKind.wrap IntKind.u64 (IntKind.wrap IntKind.u64 (a1 + b1) + IntKind.wrap IntKind.u64 (Int.tdiv (IntKind.wrap IntKind.u64 (IntKind.wrap IntKind.u64 (a0 + b0) + (0 : Int))) (4294967296 : Int)))) (4294967296 : Int)))) (4294967296 : Int) = r2,
      Int.tmod (IntKind.wrap IntKind.u64 (IntKind.wrap IntKind.u64 (a3 + b3) + IntKind.wrap IntKind.u64 (Int.tdiv (IntKind.wrap IntKind.u64 (IntKind.wrap IntKind.u64 (a2 + b2) + IntKind.wrap IntKind.u64 (Int.tdiv (IntKind.wrap IntKind.u64 (IntKind.wrap IntKind.u64 (a1 + b1) + IntKind.wrap IntKind.u64 (Int.tdiv (IntKind.wrap IntKind.u64 (IntKind.wrap IntKind.u64 (a0 + b0) + (0 : Int))) (4294967296 : Int)))) (4294967296 : Int)))) (4294967296 : Int)))) (4294967296 : Int) = r3]) (by kernel_rfl) (.cons (by rfl) (.cons (by trivial) (.cons (by trivial) (.cons (by trivial) (.cons (by trivial) (.cons (by trivial) (.cons (by trivial) (.cons (by trivial) (.cons (by trivial) (.cons (by rfl) (.cons (by trivial) (.cons (by trivial) (.cons (by trivial) (.cons (by trivial) (.cons (by trivial) (.cons (by trivial) (.cons (by trivial) (.cons (by trivial) (.cons (by rfl) (.cons (by trivial) (.cons (by trivial) (.cons (by trivial) (.cons (by trivial) (.cons (by trivial) (.cons (by trivial) (.cons (by trivial) (.cons (by trivial) (.cons (by rfl) (.cons (by trivial) (.cons (by trivial) (.cons (by trivial) (.cons (by trivial) (.cons (by trivial) (.cons (by trivial) (.cons (by trivial) (.cons (by trivial) (.cons (by rfl) (.cons (by (subst_vars; rfl)) (.cons (by (subst_vars; rfl)) (.cons (by (subst_vars; rfl)) (.cons (by (subst_vars; rfl)) .nil)))))))))))))))))))))))))))))))))))))))))

set_option maxHeartbeats 2000000 in
theorem minus_pure (a0 a1 a2 a3 b0 b1 b2 b3 c0 c1 c2 c3 k0 k1 k2 k3 r0 r1 r2 r3 : Int) (e0 : IntKind.wrap IntKind.u64 (IntKind.wrap IntKind.u64 (IntKind.wrap IntKind.u64 (a0 + 4294967296) - b0) - 0) = c0) (g0 : IntKind.wrap IntKind.u64 (1 - IntKind.wrap IntKind.u64 (Int.tdiv c0 4294967296)) = k0) (f0 : Int.tmod c0 4294967296 = r0) (e1 : IntKind.wrap IntKind.u64 (IntKind.wrap IntKind.u64 (IntKind.wrap IntKind.u64 (a1 + 4294967296) - b1) - k0) = c1) (g1 : IntKind.wrap IntKind.u64 (1 - IntKind.wrap IntKind.u64 (Int.tdiv c1 4294967296)) = k1) (f1 : Int.tmod c1 4294967296 = r1) (e2 : IntKind.wrap IntKind.u64 (IntKind.wrap IntKind.u64 (IntKind.wrap IntKind.u64 (a2 + 4294967296) - b2) - k1) = c2) (g2 : IntKind.wrap IntKind.u64 (1 - IntKind.wrap IntKind.u64 (Int.tdiv c2 4294967296)) = k2) (f2 : Int.tmod c2 4294967296 = r2) (e3 : IntKind.wrap IntKind.u64 (IntKind.wrap IntKind.u64 (IntKind.wrap IntKind.u64 (a3 + 4294967296) - b3) - k2) = c3) (g3 : IntKind.wrap IntKind.u64 (1 - IntKind.wrap IntKind.u64 (Int.tdiv c3 4294967296)) = k3) (f3 : Int.tmod c3 4294967296 = r3) : PureOk Try.prog 30 ([.nv (wN a0 a1 a2 a3), .nv (wN b0 b1 b2 b3)]) (.nv (wN r0 r1 r2 r3)) :=
  pure_run G0_ok Try.func30 (orc := ⟨[true, true, true, true, false], [unroll 6]⟩) (obl := [decide ((0 : Int) < (4 : Int)) = true,
      (0 : Int) ≤ (0 : Int),
      (0 : Int) < (↑(4 : Nat) : Int),
      (0 : Int) ≤ (0 : Int),
      (0 : Int) < (↑(4 : Nat) : Int),
      (4294967296 : Int) ≠ (0 : Int),
      (0 : Int) ≤ (0 : Int),
      (0 : Int) < (↑(4 : Nat) : Int),
      (4294967296 : Int) ≠ (0 : Int),
      decide (IntKind.wrap IntKind.i64 ((0 : Int) + (1 : Int)) < (4 : Int)) = true,
      (0 : Int) ≤ IntKind.wrap IntKind.i64 ((0 : Int) + (1 : Int)),
      IntKind.wrap IntKind.i64 ((0 : Int) + (1 : Int)) < (↑(4 : Nat) : Int),
      (0 : Int) ≤ IntKind.wrap IntKind.i64 ((0 : Int) + (1 : Int)),
      IntKind.wrap IntKind.i64 ((0 : Int) + (1 : Int)) < (↑(4 : Nat) : Int),
      (4294967296 : Int) ≠ (0 : Int),
      (0 : Int) ≤ IntKind.wrap IntKind.i64 ((0 : Int) + (1 : Int)),
      IntKind.wrap IntKind.i64 ((0 : Int) + (1 : Int)) < (↑(4 : Nat) : Int),
      (4294967296 : Int) ≠ (0 : Int),
      decide (IntKind.wrap IntKind.i64 (IntKind.wrap IntKind.i64 ((0 : Int) + (1 : Int)) + (1 : Int)) < (4 : Int)) = true,
      (0 : Int) ≤ IntKind.wrap IntKind.i64 (IntKind.wrap IntKind.i64 ((0 : Int) + (1 : Int)) + (1 : Int)),
      IntKind.wrap IntKind.i64 (IntKind.wrap IntKind.i64 ((0 : Int) + (1 : Int)) + (1 : Int)) < (↑(4 : Nat) : Int),
      (0 : Int) ≤ IntKind.wrap IntKind.i64 (IntKind.wrap IntKind.i64 ((0 : Int) + (1 : Int)) + (1 : Int)),
      IntKind.wrap IntKind.i64 (IntKind.wrap IntKind.i64 ((0 : Int) + (1 : Int)) + (1 : Int)) < (↑(4 : Nat) : Int),
      (4294967296 : Int) ≠ (0 : Int),
      (0 : Int) ≤ IntKind.wrap IntKind.i64 (IntKind.wrap IntKind.i64 ((0 : Int) + (1 : Int)) + (1 : Int)),
      IntKind.wrap IntKind.i64 (IntKind.wrap IntKind.i64 ((0 : Int) + (1 : Int)) + (1 : Int)) < (↑(4 : Nat) : Int),
      (4294967296 : Int) ≠ (0 : Int),
      decide (IntKind.wrap IntKind.i64 (IntKind.wrap IntKind.i64 (IntKind.wrap IntKind.i64 ((0 : Int) + (1 : Int)) + (1 : Int)) + (1 : Int)) < (4 : Int)) = true,
      (0 : Int) ≤ IntKind.wrap IntKind.i64 (IntKind.wrap IntKind.i64 (IntKind.wrap IntKind.i64 ((0 : Int) + (1 : Int)) + (1 : Int)) + (1 : Int)),
      IntKind.wrap IntKind.i64 (IntKind.wrap IntKind.i64 (IntKind.wrap IntKind.i64 ((0 : Int) + (1 : Int)) + (1 : Int)) + (1 : Int)) < (↑(4 : Nat) : Int),
      (0 : Int) ≤ IntKind.wrap IntKind.i64 (IntKind.wrap IntKind.i64 (IntKind.wrap IntKind.i64 ((0 : Int) + (1 : Int)) + (1 : Int)) + (1 : Int)),
      IntKind.wrap IntKind.i64 (IntKind.wrap IntKind.i64 (IntKind.wrap IntKind.i64 ((0 : Int) + (1 : Int)) + (1 : Int)) + (1 : Int)) < (↑(4 : Nat) : Int),
      (4294967296 : Int) ≠ (0 : Int),
      (0 : Int) ≤ IntKind.wrap IntKind.i64 (IntKind.wrap IntKind.i64 (IntKind.wrap IntKind.i64 ((0 : Int) + (1 : Int)) + (1 : Int)) + (1 : Int)),
      IntKind.wrap IntKind.i64 (IntKind.wrap IntKind.i64 (IntKind.wrap IntKind.i64 ((0 : Int) + (1 : Int)) + (1 : Int)) + (1 : Int)) < (↑(4 : Nat) : Int),
      (4294967296 : Int) ≠ (0 : Int),
      decide (IntKind.wrap IntKind.i64 (IntKind.wrap IntKind.i64 (IntKind.wrap IntKind.i64 (IntKind.wrap IntKind.i64 ((0 : Int) + (1 : Int)) + (1 : Int)) + (1 : Int)) + (1 : Int)) < (4 : Int)) = false,
      Int.tmod (IntKind.wrap IntKind.u64 (IntKind.wrap IntKind.u64 (IntKind.wrap IntKind.u64 (a0 + (4294967296 : Int)) - b0) - (0 : Int))) (4294967296 : Int) = r0,
      Int.tmod (IntKind.wrap IntKind.u64 (IntKind.wrap IntKind.u64 (IntKind.wrap IntKind.u64 (a1 + (4294967296 : Int)) - b1) - IntKind.wrap IntKind.u64 ((1 : Int) - IntKind.wrap IntKind.u64 (Int.tdiv (IntKind.wrap IntKind.u64 (IntKind.wrap IntKind.u64 (IntKind.wrap IntKind.u64 (a0 + (4294967296 : Int)) - b0) - (0 : Int))) (4294967296 : Int))))) (4294967296 : Int) = r1,
      Int.tmod (IntKind.wrap IntKind.u64 (IntKind.wrap IntKind.u64 (IntKind.wrap IntKind.u64 (a2 + (4294967296 : Int)) - b2) - IntKind.wrap IntKind.u64 ((1 : Int) - IntKind.wrap IntKind.u64 (Int.tdiv (IntKind.wrap IntKind.u64 (IntKind.wrap IntKind.u64 (IntKind.wrap IntKind.u64 (a1 + (4294967296 : Int)) - b1) - IntKind.wrap IntKind.u64 ((1 : Int) - IntKind.wrap IntKind.u64 (Int.tdiv (IntKind.wrap IntKind.u64 (IntKind.wrap IntKind.u64 (IntKind.wrap IntKind.u64 (a0 + (4294967296 : Int)) - b0) - (0 : Int))) (4294967296 : Int))))) (4294967296 : Int))))) (4294967296 : Int) = r2,
      Int.tmod (IntKind.wrap IntKind.u64 (IntKind.wrap IntKind.u64 (IntKind.wrap IntKind.u64 (a3 + (4294967296 : Int)) - b3) - IntKind.wrap IntKind.u64 ((1 : Int) - IntKind.wrap IntKind.u64 (Int.tdiv (IntKind.wrap IntKind.u64 (IntKind.wrap IntKind.u64 (IntKind.wrap IntKind.u64 (a2 + (4294967296 : Int)) - b2) - IntKind.wrap IntKind.u64 ((1 : Int) - IntKind.wrap IntKind.u64 (Int.tdiv (IntKind.wrap IntKind.u64 (IntKind.wrap IntKind.u64 (IntKind.wrap IntKind.u64 (a1 + (4294967296 : Int)) - b1) - IntKind.wrap IntKind.u64 ((1 : Int) - IntKind.wrap IntKind.u64 (Int.tdiv (IntKind.wrap IntKind.u64 (IntKind.wrap IntKind.u64 (IntKind.wrap IntKind.u64 (a0 + (4294967296 : Int)) - b0) - (0 : Int))) (4294967296 : Int))))) (4294967296 : Int))))) (4294967296 : Int))))) (4294967296 : Int) = r3]) (by kernel_rfl) (.cons (by rfl) (.cons (by trivial) (.cons (by trivial) (.cons (by trivial) (.cons (by trivial) (.cons (by trivial) (.cons (by trivial) (.cons (by trivial) (.cons (by trivial) (.cons (by rfl) (.cons (by trivial) (.cons (by trivial) (.cons (by trivial) (.cons (by trivial) (.cons (by trivial) (.cons (by trivial) (.cons (by trivial) (.cons (by trivial) (.cons (by rfl) (.cons (by trivial) (.cons (by trivial) (.cons (by trivial) (.cons (by trivial) (.cons (by trivial) (.cons (by trivial) (.cons (by trivial) (.cons (by trivial) (.cons (by rfl) (.cons (by trivial) (.cons (by trivial) (.cons (by trivial) (.cons (by trivial) (.cons (by trivial) (.cons (by trivial) (.cons (by trivial) (.cons (by trivial) (.cons (by rfl) (.cons (by (subst_vars; rfl)) (.cons (by (subst_vars; rfl)) (.cons (by (subst_vars; rfl)) (.cons (by (subst_vars; rfl)) .nil)))))))))))))))))))))))))))))))))))))))))

set_option maxHeartbeats 2000000 in
theorem cap_c (a b c d : Int) (h : c ≠ 0) : PureOk Try.prog 33 ([.nv (wN a b c d)]) (uA 18446744073709551615) :=
  pure_run G0_ok Try.func33 (orc := ⟨[true, true], []⟩) (obl := [(0 : Int) ≤ (2 : Int),
      (2 : Int) < (↑(4 : Nat) : Int),
      (c != (0 : Int)) = true,
      true = true,
      (18446744073709551615 : Int) = (18446744073709551615 : Int)]) (by kernel_rfl) (.cons (by trivial) (.cons (by trivial) (.cons (by exact bne_iff_ne.2 (by omega)) (.cons (by rfl) (.cons (by rfl) .nil)))))

set_option maxHeartbeats 2000000 in
theorem cap_d (a b d : Int) (h : d ≠ 0) : PureOk Try.prog 33 ([.nv (wN a b 0 d)]) (uA 18446744073709551615) :=
  pure_run G0_ok Try.func33 (orc := ⟨[false, true], []⟩) (obl := [(0 : Int) ≤ (2 : Int),
      (2 : Int) < (↑(4 : Nat) : Int),
      ((0 : Int) != (0 : Int)) = false,
      (0 : Int) ≤ (3 : Int),
      (3 : Int) < (↑(4 : Nat) : Int),
      (d != (0 : Int)) = true,
      (18446744073709551615 : Int) = (18446744073709551615 : Int)]) (by kernel_rfl) (.cons (by trivial) (.cons (by trivial) (.cons (by rfl) (.cons (by trivial) (.cons (by trivial) (.cons (by exact bne_iff_ne.2 (by omega)) (.cons (by rfl) .nil)))))))

set_option maxHeartbeats 2000000 in
theorem cap_in (a b x : Int) (hx : IntKind.wrap IntKind.u64 (IntKind.wrap IntKind.u64 (b * 4294967296) + a) = x) : PureOk Try.prog 33 ([.nv (wN a b 0 0)]) (uA x) :=
  pure_run G0_ok Try.func33 (orc := ⟨[false, false], []⟩) (obl := [(0 : Int) ≤ (2 : Int),
      (2 : Int) < (↑(4 : Nat) : Int),
      ((0 : Int) != (0 : Int)) = false,
      (0 : Int) ≤ (3 : Int),
      (3 : Int) < (↑(4 : Nat) : Int),
      ((0 : Int) != (0 : Int)) = false,
      (0 : Int) ≤ (1 : Int),
      (1 : Int) < (↑(4 : Nat) : Int),
      (0 : Int) ≤ (0 : Int),
      (0 : Int) < (↑(4 : Nat) : Int),
      IntKind.wrap IntKind.u64 (IntKind.wrap IntKind.u64 (b * (4294967296 : Int)) + a) = x]) (by kernel_rfl) (.cons (by trivial) (.cons (by trivial) (.cons (by rfl) (.cons (by trivial) (.cons (by trivial) (.cons (by rfl) (.cons (by trivial) (.cons (by trivial) (.cons (by trivial) (.cons (by trivial) (.cons (by assumption) .nil)))))))))))

set_option maxHeartbeats 2000000 in
theorem less3 (a0 a1 a2 a3 b0 b1 b2 b3 : Int) (h : a3 ≠ b3) : PureOk Try.prog 23 ([.nv (wN a0 a1 a2 a3), .nv (wN b0 b1 b2 b3)]) (bA (decide (a3 < b3))) :=
  pure_run G0_ok Try.func23 (orc := ⟨[true, true], [unroll 6]⟩) (obl := [decide ((3 : Int) ≥ (0 : Int)) = true,
      (0 : Int) ≤ (3 : Int),
      (3 : Int) < (↑(4 : Nat) : Int),
      (0 : Int) ≤ (3 : Int),
      (3 : Int) < (↑(4 : Nat) : Int),
      (a3 != b3) = true,
      (0 : Int) ≤ (3 : Int),
      (3 : Int) < (↑(4 : Nat) : Int),
      (0 : Int) ≤ (3 : Int),
      (3 : Int) < (↑(4 : Nat) : Int),
      decide (a3 < b3) = decide (a3 < b3)]) (by kernel_rfl) (.cons (by rfl) (.cons (by trivial) (.cons (by trivial) (.cons (by trivial) (.cons (by trivial) (.cons (by exact bne_iff_ne.2 (by omega)) (.cons (by trivial) (.cons (by trivial) (.cons (by trivial) (.cons (by trivial) (.cons (by rfl) .nil)))))))))))

set_option maxHeartbeats 2000000 in
theorem less2 (a0 a1 a2 a3 b0 b1 b2 : Int) (h : a2 ≠ b2) : PureOk Try.prog 23 ([.nv (wN a0 a1 a2 a3), .nv (wN b0 b1 b2 a3)]) (bA (decide (a2 < b2))) :=
  pure_run G0_ok Try.func23 (orc := ⟨[true, false, true, true], [unroll 6]⟩) (obl := [decide ((3 : Int) ≥ (0 : Int)) = true,
      (0 : Int) ≤ (3 : Int),
      (3 : Int) < (↑(4 : Nat) : Int),
      (0 : Int) ≤ (3 : Int),
      (3 : Int) < (↑(4 : Nat) : Int),
      (a3 != a3) = false,
      decide (IntKind.wrap IntKind.i64 ((3 : Int) - (1 : Int)) ≥ (0 : Int)) = true,
      (0 : Int) ≤ IntKind.wrap IntKind.i64 ((3 : Int) - (1 : Int)),
      IntKind.wrap IntKind.i64 ((3 : Int) - (1 : Int)) < (↑(4 : Nat) : Int),
      (0 : Int) ≤ IntKind.wrap IntKind.i64 ((3 : Int) - (1 : Int)),
      IntKind.wrap IntKind.i64 ((3 : Int) - (1 : Int)) < (↑(4 : Nat) : Int),
      (a2 != b2) = true,
      (0 : Int) ≤ IntKind.wrap IntKind.i64 ((3 : Int) - (1 : Int)),
      IntKind.wrap IntKind.i64 ((3 : Int) - (1 : Int)) < (↑(4 : Nat) : Int),
      (0 : Int) ≤ IntKind.wrap IntKind.i64 ((3 : Int) - (1 : Int)),
      IntKind.wrap IntKind.i64 ((3 : Int) - (1 : Int)) < (↑(4 : Nat) : Int),
      decide (a2 < b2) = decide (a2 < b2)]) (by kernel_rfl) (.cons (by rfl) (.cons (by trivial) (.cons (by trivial) (.cons (by trivial) (.cons (by trivial) (.cons (by exact bne_eq_false_iff_eq.2 (by omega)) (.cons (by rfl) (.cons (by trivial) (.cons (by trivial) (.cons (by trivial) (.cons (by trivial) (.cons (by exact bne_iff_ne.2 (by omega)) (.cons (by trivial) (.cons (by trivial) (.cons (by trivial) (.cons (by trivial) (.cons (by rfl) .nil)))))))))))))))))

set_option maxHeartbeats 2000000 in
theorem less1 (a0 a1 a2 a3 b0 b1 : Int) (h : a1 ≠ b1) : PureOk Try.prog 23 ([.nv (wN a0 a1 a2 a3), .nv (wN b0 b1 a2 a3)]) (bA (decide (a1 < b1))) :=
  pure_run G0_ok Try.func23 (orc := ⟨[true, false, true, false, true, true], [unroll 6]⟩) (obl := [decide ((3 : Int) ≥ (0 : Int)) = true,
      (0 : Int) ≤ (3 : Int),
      (3 : Int) < (↑(4 : Nat) : Int),
      (0 : Int) ≤ (3 : Int),
      (3 : Int) < (↑(4 : Nat) : Int),
      (a3 != a3) = false,
      decide (IntKind.wrap IntKind.i64 ((3 : Int) - (1 : Int)) ≥ (0 : Int)) = true,
      (0 : Int) ≤ IntKind.wrap IntKind.i64 ((3 : Int) - (1 : Int)),
      IntKind.wrap IntKind.i64 ((3 : Int) - (1 : Int)) < (↑(4 : Nat) : Int),
      (0 : Int) ≤ IntKind.wrap IntKind.i64 ((3 : Int) - (1 : Int)),
      IntKind.wrap IntKind.i64 ((3 : Int) - (1 : Int)) < (↑(4 : Nat) : Int),
      (a2 != a2) = false,
      decide (IntKind.wrap IntKind.i64 (IntKind.wrap IntKind.i64 ((3 : Int) - (1 : Int)) - (1 : Int)) ≥ (0 : Int)) = true,
      (0 : Int) ≤ IntKind.wrap IntKind.i64 (IntKind.wrap IntKind.i64 ((3 : Int) - (1 : Int)) - (1 : Int)),
      IntKind.wrap IntKind.i64 (IntKind.wrap IntKind.i64 ((3 : Int) - (1 : Int)) - (1 : Int)) < (↑(4 : Nat) : Int),
      (0 : Int) ≤ IntKind.wrap IntKind.i64 (IntKind.wrap IntKind.i64 ((3 : Int) - (1 : Int)) - (1 : Int)),
      IntKind.wrap IntKind.i64 (IntKind.wrap IntKind.i64 ((3 : Int) - (1 : Int)) - (1 : Int)) < (↑(4 : Nat) : Int),
      (a1 != b1) = true,
      (0 : Int) ≤ IntKind.wrap IntKind.i64 (IntKind.wrap IntKind.i64 ((3 : Int) - (1 : Int)) - (1 : Int)),
      IntKind.wrap IntKind.i64 (IntKind.wrap IntKind.i64 ((3 : Int) - (1 : Int)) - (1 : Int)) < (↑(4 : Nat) : Int),
      (0 : Int) ≤ IntKind.wrap IntKind.i64 (IntKind.wrap IntKind.i64 ((3 : Int) - (1 : Int)) - (1 : Int)),
      IntKind.wrap IntKind.i64 (IntKind.wrap IntKind.i64 ((3 : Int) - (1 : Int)) - (1 : Int)) < (↑(4 : Nat) : Int),
      decide (a1 < b1) = decide (a1 < b1)]) (by kernel_rfl) (.cons (by rfl) (.cons (by trivial) (.cons (by trivial) (.cons (by trivial) (.cons (by trivial) (.cons (by exact bne_eq_false_iff_eq.2 (by omega)) (.cons (by rfl) (.cons (by trivial) (.cons (by trivial) (.cons (by trivial) (.cons (by trivial) (.cons (by exact bne_eq_false_iff_eq.2 (by omega)) (.cons (by rfl) (.cons (by trivial) (.cons (by trivial) (.cons (by trivial) (.cons (by trivial) (.cons (by exact bne_iff_ne.2 (by omega)) (.cons (by trivial) (.cons (by trivial) (.cons (by trivial) (.cons (by trivial) (.cons (by rfl) .nil)))))))))))))))))))))))

set_option maxHeartbeats 2000000 in
theorem less0 (a0 a1 a2 a3 b0 : Int) (h : a0 ≠ b0) : PureOk Try.prog 23 ([.nv (wN a0 a1 a2 a3), .nv (wN b0 a1 a2 a3)]) (bA (decide (a0 < b0))) :=
  pure_run G0_ok Try.func23 (orc := ⟨[true, false, true, false, true, false, true, true], [unroll 6]⟩) (obl := [decide ((3 : Int) ≥ (0 : Int)) = true,
      (0 : Int) ≤ (3 : Int),
      (3 : Int) < (↑(4 : Nat) : Int),
      (0 : Int) ≤ (3 : Int),
      (3 : Int) < (↑(4 : Nat) : Int),
      (a3 != a3) = false,
      decide (IntKind.wrap IntKind.i64 ((3 : Int) - (1 : Int)) ≥ (0 : Int)) = true,
      (0 : Int) ≤ IntKind.wrap IntKind.i64 ((3 : Int) - (1 : Int)),
      IntKind.wrap IntKind.i64 ((3 : Int) - (1 : Int)) < (↑(4 : Nat) : Int),
      (0 : Int) ≤ IntKind.wrap IntKind.i64 ((3 : Int) - (1 : Int)),
      IntKind.wrap IntKind.i64 ((3 : Int) - (1 : Int)) < (↑(4 : Nat) : Int),
      (a2 != a2) = false,
      decide (IntKind.wrap IntKind.i64 (IntKind.wrap IntKind.i64 ((3 : Int) - (1 : Int)) - (1 : Int)) ≥ (0 : Int)) = true,
      (0 : Int) ≤ IntKind.wrap IntKind.i64 (IntKind.wrap IntKind.i64 ((3 : Int) - (1 : Int)) - (1 : Int)),
      IntKind.wrap IntKind.i64 (IntKind.wrap IntKind.i64 ((3 : Int) - (1 : Int)) - (1 : Int)) < (↑(4 : Nat) : Int),
      (0 : Int) ≤ IntKind.wrap IntKind.i64 (IntKind.wrap IntKind.i64 ((3 : Int) - (1 : Int)) - (1 : Int)),
      IntKind.wrap IntKind.i64 (IntKind.wrap IntKind.i64 ((3 : Int) - (1 : Int)) - (1 : Int)) < (↑(4 : Nat) : Int),
      (a1 != a1) = false,
      decide (IntKind.wrap IntKind.i64 (IntKind.wrap IntKind.i64 (IntKind.wrap IntKind.i64 ((3 : Int) - (1 : Int)) - (1 : Int)) - (1 : Int)) ≥ (0 : Int)) = true,
      (0 : Int) ≤ IntKind.wrap IntKind.i64 (IntKind.wrap IntKind.i64 (IntKind.wrap IntKind.i64 ((3 : Int) - (1 : Int)) - (1 : Int)) - (1 : Int)),
      IntKind.wrap IntKind.i64 (IntKind.wrap IntKind.i64 (IntKind.wrap IntKind.i64 ((3 : Int) - (1 : Int)) - (1 : Int)) - (1 : Int)) < (↑(4 : Nat) : Int),
      (0 : Int) ≤ IntKind.wrap IntKind.i64 (IntKind.wrap IntKind.i64 (IntKind.wrap IntKind.i64 ((3 : Int) - (1 : Int)) - (1 : Int)) - (1 : Int)),
      IntKind.wrap IntKind.i64 (IntKind.wrap IntKind.i64 (IntKind.wrap IntKind.i64 ((3 : Int) - (1 : Int)) - (1 : Int)) - (1 : Int)) < (↑(4 : Nat) : Int),
      (a0 != b0) = true,
      (0 : Int) ≤ IntKind.wrap IntKind.i64 (IntKind.wrap IntKind.i64 (IntKind.wrap IntKind.i64 ((3 : Int) - (1 : Int)) - (1 : Int)) - (1 : Int)),
      IntKind.wrap IntKind.i64 (IntKind.wrap IntKind.i64 (IntKind.wrap IntKind.i64 ((3 : Int) - (1 : Int)) - (1 : Int)) - (1 : Int)) < (↑(4 : Nat) : Int),
      (0 : Int) ≤ IntKind.wrap IntKind.i64 (IntKind.wrap IntKind.i64 (IntKind.wrap IntKind.i64 ((3 : Int) - (1 : Int)) - (1 : Int)) - (1 : Int)),
      IntKind.wrap IntKind.i64 (IntKind.wrap IntKind.i64 (IntKind.wrap IntKind.i64 ((3 : Int) - (1 : Int)) - (1 : Int)) - (1 : Int)) < (↑(4 : Nat) : Int),
      decide (a0 < b0) = decide (a0 < b0)]) (by kernel_rfl) (.cons (by rfl) (.cons (by trivial) (.cons (by trivial) (.cons (by trivial) (.cons (by trivial) (.cons (by exact bne_eq_false_iff_eq.2 (by omega)) (.cons (by rfl) (.cons (by trivial) (.cons (by trivial) (.cons (by trivial) (.cons (by trivial) (.cons (by exact bne_eq_false_iff_eq.2 (by omega)) (.cons (by rfl) (.cons (by trivial) (.cons (by trivial) (.cons (by trivial) (.cons (by trivial) (.cons (by exact bne_eq_false_iff_eq.2 (by omega)) (.cons (by rfl) (.cons (by trivial) (.cons (by trivial) (.cons (by trivial) (.cons (by trivial) (.cons (by exact bne_iff_ne.2 (by omega)) (.cons (by trivial) (.cons (by trivial) (.cons (by trivial) (.cons (by trivial) (.cons (by rfl) .nil)))))))))))))))))))))))))))))

set_option maxHeartbeats 2000000 in
theorem less_no (a0 a1 a2 a3 : Int) : PureOk Try.prog 23 ([.nv (wN a0 a1 a2 a3), .nv (wN a0 a1 a2 a3)]) (bA false) :=
  pure_run G0_ok Try.func23 (orc := ⟨[true, false, true, false, true, false, true, false, false], [unroll 6]⟩) (obl := [decide ((3 : Int) ≥ (0 : Int)) = true,
      (0 : Int) ≤ (3 : Int),
      (3 : Int) < (↑(4 : Nat) : Int),
      (0 : Int) ≤ (3 : Int),
      (3 : Int) < (↑(4 : Nat) : Int),
      (a3 != a3) = false,
      decide (IntKind.wrap IntKind.i64 ((3 : Int) - (1 : Int)) ≥ (0 : Int)) = true,
      (0 : Int) ≤ IntKind.wrap IntKind.i64 ((3 : Int) - (1 : Int)),
      IntKind.wrap IntKind.i64 ((3 : Int) - (1 : Int)) < (↑(4 : Nat) : Int),
      (0 : Int) ≤ IntKind.wrap IntKind.i64 ((3 : Int) - (1 : Int)),
      IntKind.wrap IntKind.i64 ((3 : Int) - (1 : Int)) < (↑(4 : Nat) : Int),
      (a2 != a2) = false,
      decide (IntKind.wrap IntKind.i64 (IntKind.wrap IntKind.i64 ((3 : Int) - (1 : Int)) - (1 : Int)) ≥ (0 : Int)) = true,
      (0 : Int) ≤ IntKind.wrap IntKind.i64 (IntKind.wrap IntKind.i64 ((3 : Int) - (1 : Int)) - (1 : Int)),
      IntKind.wrap IntKind.i64 (IntKind.wrap IntKind.i64 ((3 : Int) - (1 : Int)) - (1 : Int)) < (↑(4 : Nat) : Int),
      (0 : Int) ≤ IntKind.wrap IntKind.i64 (IntKind.wrap IntKind.i64 ((3 : Int) - (1 : Int)) - (1 : Int)),
      IntKind.wrap IntKind.i64 (IntKind.wrap IntKind.i64 ((3 : Int) - (1 : Int)) - (1 : Int)) < (↑(4 : Nat) : Int),
      (a1 != a1) = false,
      decide (IntKind.wrap IntKind.i64 (IntKind.wrap IntKind.i64 (IntKind.wrap IntKind.i64 ((3 : Int) - (1 : Int)) - (1 : Int)) - (1 : Int)) ≥ (0 : Int)) = true,
      (0 : Int) ≤ IntKind.wrap IntKind.i64 (IntKind.wrap IntKind.i64 (IntKind.wrap IntKind.i64 ((3 : Int) - (1 : Int)) - (1 : Int)) - (1 : Int)),
      IntKind.wrap IntKind.i64 (IntKind.wrap IntKind.i64 (IntKind.wrap IntKind.i64 ((3 : Int) - (1 : Int)) - (1 : Int)) - (1 : Int)) < (↑(4 : Nat) : Int),
      (0 : Int) ≤ IntKind.wrap IntKind.i64 (IntKind.wrap IntKind.i64 (IntKind.wrap IntKind.i64 ((3 : Int) - (1 : Int)) - (1 : Int)) - (1 : Int)),
      IntKind.wrap IntKind.i64 (IntKind.wrap IntKind.i64 (IntKind.wrap IntKind.i64 ((3 : Int) - (1 : Int)) - (1 : Int)) - (1 : Int)) < (↑(4 : Nat) : Int),
      (a0 != a0) = false,
      decide (IntKind.wrap IntKind.i64 (IntKind.wrap IntKind.i64 (IntKind.wrap IntKind.i64 (IntKind.wrap IntKind.i64 ((3 : Int) - (1 : Int)) - (1 : Int)) - (1 : Int)) - (1 : Int)) ≥ (0 : Int)) = false,
      false = false]) (by kernel_rfl) (.cons (by rfl) (.cons (by trivial) (.cons (by trivial) (.cons (by trivial) (.cons (by trivial) (.cons (by exact bne_eq_false_iff_eq.2 (by omega)) (.cons (by rfl) (.cons (by trivial) (.cons (by trivial) (.cons (by trivial) (.cons (by trivial) (.cons (by exact bne_eq_false_iff_eq.2 (by omega)) (.cons (by rfl) (.cons (by trivial) (.cons (by trivial) (.cons (by trivial) (.cons (by trivial) (.cons (by exact bne_eq_false_iff_eq.2 (by omega)) (.cons (by rfl) (.cons (by trivial) (.cons (by trivial) (.cons (by trivial) (.cons (by trivial) (.cons (by exact bne_eq_false_iff_eq.2 (by omega)) (.cons (by rfl) (.cons (by rfl) .nil))))))))))))))))))))))))))
end Go.Proofs.Ytlmeemilikladaa
