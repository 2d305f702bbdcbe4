/- Runs of Go code, as printed by a program: no condition beyond those that each states. -/
import Derived.Test.YtkgkelfdmkginaaRkA
import Derived.Test.YtkgkelfdmkginaaChecked
import Derived.KernelRfl
namespace Go.Proofs.Ytkgkelfdmkginaa
set_option linter.unusedVariables false
set_option linter.unusedSimpArgs false
set_option maxRecDepth 100000
open Go.RowKit E
set_option maxHeartbeats 2000000 in
theorem ssub_y (x y : Int) (h : x < y) : PureOk Try.prog 27 ([uA x, uA y]) (uA 0) :=
  pure_run RkAG_ok Try.func27 (orc := ⟨[true], []⟩) (obl := [decide (y > x) = true,
      (0 : Int) = (0 : Int)]) (by kernel_rfl) (.cons (by exact decide_eq_true (by omega)) (.cons (by rfl) .nil))

set_option maxHeartbeats 2000000 in
theorem ssub_n (x y : Int) (hx : 0 ≤ y) (hx2 : x ≤ 18446744073709551615) (h : y ≤ x) : PureOk Try.prog 27 ([uA x, uA y]) (uA (x - y)) :=
  pure_run RkAG_ok Try.func27 (orc := ⟨[false], []⟩) (obl := [decide (y > x) = false,
      IntKind.wrap IntKind.u64 (x - y) = x - y]) (by kernel_rfl) (.cons (by exact decide_eq_false (by omega)) (.cons (by exact wU64 (by omega) (by omega)) .nil))

set_option maxHeartbeats 2000000 in
theorem rsub_y (x y : Int) (h : x < y) : PureOk Try.prog 31 ([uA x, uA y]) (uA 0) :=
  pure_run RkAG_ok Try.func31 (orc := ⟨[true], []⟩) (obl := [decide (x < y) = true,
      (0 : Int) = (0 : Int)]) (by kernel_rfl) (.cons (by exact decide_eq_true (by omega)) (.cons (by rfl) .nil))

set_option maxHeartbeats 2000000 in
theorem rsub_n (x y : Int) (hx : 0 ≤ y) (hx2 : x ≤ 18446744073709551615) (h : y ≤ x) : PureOk Try.prog 31 ([uA x, uA y]) (uA (x - y)) :=
  pure_run RkAG_ok Try.func31 (orc := ⟨[false], []⟩) (obl := [decide (x < y) = false,
      IntKind.wrap IntKind.u64 (x - y) = x - y]) (by kernel_rfl) (.cons (by exact decide_eq_false (by omega)) (.cons (by exact wU64 (by omega) (by omega)) .nil))

set_option maxHeartbeats 2000000 in
theorem radd (x y : Int) (hx : 0 ≤ x ∧ x ≤ 18446744073709551615) (hy : 0 ≤ y ∧ y ≤ 18446744073709551615) (dx : dig (d0 x) ∧ dig (d1 x) ∧ dig (d2 x) ∧ dig (d3 x)) (dy : dig (d0 y) ∧ dig (d1 y) ∧ dig (d2 y) ∧ dig (d3 y)) (vx : val4 (d0 x) (d1 x) (d2 x) (d3 x) = x) (vy : val4 (d0 y) (d1 y) (d2 y) (d3 y) = y) (dz : dig (d0 (x + y)) ∧ dig (d1 (x + y)) ∧ dig (d2 (x + y)) ∧ dig (d3 (x + y))) (vz : val4 (d0 (x + y)) (d1 (x + y)) (d2 (x + y)) (d3 (x + y)) = x + y) : PureOk Try.prog 30 ([uA x, uA y]) (uA (capU (x + y))) :=
  pure_run RkAG_ok Try.func30 (orc := ⟨[], []⟩) (obl := [(0 : Int) ≤ x,
      x ≤ (18446744073709551615 : Int),
      (0 : Int) ≤ y,
      y ≤ (18446744073709551615 : Int),
      dig (d0 x),
      dig (d1 x),
      dig (d2 x),
      dig (d3 x),
      dig (d0 y),
      dig (d1 y),
      dig (d2 y),
      dig (d3 y),
      val4 (d0 x) (d1 x) (d2 x) (d3 x) + val4 (d0 y) (d1 y) (d2 y) (d3 y) ≤ (340282366920938463463374607431768211455 : Int),
      dig (d0 (val4 (d0 x) (d1 x) (d2 x) (d3 x) + val4 (d0 y) (d1 y) (d2 y) (d3 y))),
      dig (d1 (val4 (d0 x) (d1 x) (d2 x) (d3 x) + val4 (d0 y) (d1 y) (d2 y) (d3 y))),
      dig (d2 (val4 (d0 x) (d1 x) (d2 x) (d3 x) + val4 (d0 y) (d1 y) (d2 y) (d3 y))),
      dig (d3 (val4 (d0 x) (d1 x) (d2 x) (d3 x) + val4 (d0 y) (d1 y) (d2 y) (d3 y))),
      capW (val4 (d0 (val4 (d0 x) (d1 x) (d2 x) (d3 x) + val4 (d0 y) (d1 y) (d2 y) (d3 y))) (d1 (val4 (d0 x) (d1 x) (d2 x) (d3 x) + val4 (d0 y) (d1 y) (d2 y) (d3 y))) (d2 (val4 (d0 x) (d1 x) (d2 x) (d3 x) + val4 (d0 y) (d1 y) (d2 y) (d3 y))) (d3 (val4 (d0 x) (d1 x) (d2 x) (d3 x) + val4 (d0 y) (d1 y) (d2 y) (d3 y)))) = capU (x + y)]) (by kernel_rfl) (.cons (by omega) (.cons (by omega) (.cons (by omega) (.cons (by omega) (.cons (by exact dx.1) (.cons (by exact dx.2.1) (.cons (by exact dx.2.2.1) (.cons (by exact dx.2.2.2) (.cons (by exact dy.1) (.cons (by exact dy.2.1) (.cons (by exact dy.2.2.1) (.cons (by exact dy.2.2.2) (.cons (by (simp only [vx, vy]; omega)) (.cons (by (simp only [vx, vy]; first | exact dz.1 | exact dz.2.1 | exact dz.2.2.1 | exact dz.2.2.2)) (.cons (by (simp only [vx, vy]; first | exact dz.1 | exact dz.2.1 | exact dz.2.2.1 | exact dz.2.2.2)) (.cons (by (simp only [vx, vy]; first | exact dz.1 | exact dz.2.1 | exact dz.2.2.1 | exact dz.2.2.2)) (.cons (by (simp only [vx, vy]; first | exact dz.1 | exact dz.2.1 | exact dz.2.2.1 | exact dz.2.2.2)) (.cons (by (simp only [vx, vy, vz]; rfl)) .nil))))))))))))))))))

set_option maxHeartbeats 2000000 in
theorem rmuladd (x y u p : Int) (hx : 0 ≤ x ∧ x ≤ 18446744073709551615) (hy : 0 ≤ y ∧ y ≤ 18446744073709551615) (hu : 0 ≤ u ∧ u ≤ 18446744073709551615) (hp : y * u = p) (hp0 : 0 ≤ p) (hp1 : p ≤ 340282366920938463426481119284349108225) (dx : dig (d0 x) ∧ dig (d1 x) ∧ dig (d2 x) ∧ dig (d3 x)) (dy : dig (d0 p) ∧ dig (d1 p) ∧ dig (d2 p) ∧ dig (d3 p)) (vx : val4 (d0 x) (d1 x) (d2 x) (d3 x) = x) (vy : val4 (d0 p) (d1 p) (d2 p) (d3 p) = p) (dz : dig (d0 (x + p)) ∧ dig (d1 (x + p)) ∧ dig (d2 (x + p)) ∧ dig (d3 (x + p))) (vz : val4 (d0 (x + p)) (d1 (x + p)) (d2 (x + p)) (d3 (x + p)) = x + p) : PureOk Try.prog 29 ([uA x, uA y, uA u]) (uA (capU (x + y * u))) :=
  pure_run RkAG_ok Try.func29 (orc := ⟨[], []⟩) (obl := [(0 : Int) ≤ x,
      x ≤ (18446744073709551615 : Int),
      (0 : Int) ≤ y,
      y ≤ (18446744073709551615 : Int),
      (0 : Int) ≤ u,
      u ≤ (18446744073709551615 : Int),
      dig (d0 x),
      dig (d1 x),
      dig (d2 x),
      dig (d3 x),
      dig (d0 (y * u)),
      dig (d1 (y * u)),
      dig (d2 (y * u)),
      dig (d3 (y * u)),
      val4 (d0 x) (d1 x) (d2 x) (d3 x) + val4 (d0 (y * u)) (d1 (y * u)) (d2 (y * u)) (d3 (y * u)) ≤ (340282366920938463463374607431768211455 : Int),
      dig (d0 (val4 (d0 x) (d1 x) (d2 x) (d3 x) + val4 (d0 (y * u)) (d1 (y * u)) (d2 (y * u)) (d3 (y * u)))),
      dig (d1 (val4 (d0 x) (d1 x) (d2 x) (d3 x) + val4 (d0 (y * u)) (d1 (y * u)) (d2 (y * u)) (d3 (y * u)))),
      dig (d2 (val4 (d0 x) (d1 x) (d2 x) (d3 x) + val4 (d0 (y * u)) (d1 (y * u)) (d2 (y * u)) (d3 (y * u)))),
      dig (d3 (val4 (d0 x) (d1 x) (d2 x) (d3 x) + val4 (d0 (y * u)) (d1 (y * u)) (d2 (y * u)) (d3 (y * u)))),
      capW (val4 (d0 (val4 (d0 x) (d1 x) (d2 x) (d3 x) + val4 (d0 (y * u)) (d1 (y * u)) (d2 (y * u)) (d3 (y * u)))) (d1 (val4 (d0 x) (d1 x) (d2 x) (d3 x) + val4 (d0 (y * u)) (d1 (y * u)) (d2 (y * u)) (d3 (y * u)))) (d2 (val4 (d0 x) (d1 x) (d2 x) (d3 x) + val4 (d0 (y * u)) (d1 (y * u)) (d2 (y * u)) (d3 (y * u)))) (d3 (val4 (d0 x) (d1 x) (d2 x) (d3 x) + val4 (d0 (y * u)) (d1 (y * u)) (d2 (y * u)) (d3 (y * u))))) = capU (x + y * u)]) (by kernel_rfl) (.cons (by omega) (.cons (by omega) (.cons (by omega) (.cons (by omega) (.cons (by omega) (.cons (by omega) (.cons (by exact dx.1) (.cons (by exact dx.2.1) (.cons (by exact dx.2.2.1) (.cons (by exact dx.2.2.2) (.cons (by (rw [hp]; exact dy.1)) (.cons (by (rw [hp]; exact dy.2.1)) (.cons (by (rw [hp]; exact dy.2.2.1)) (.cons (by (rw [hp]; exact dy.2.2.2)) (.cons (by (simp only [hp, vx, vy]; omega)) (.cons (by (simp only [hp, vx, vy]; first | exact dz.1 | exact dz.2.1 | exact dz.2.2.1 | exact dz.2.2.2)) (.cons (by (simp only [hp, vx, vy]; first | exact dz.1 | exact dz.2.1 | exact dz.2.2.1 | exact dz.2.2.2)) (.cons (by (simp only [hp, vx, vy]; first | exact dz.1 | exact dz.2.1 | exact dz.2.2.1 | exact dz.2.2.2)) (.cons (by (simp only [hp, vx, vy]; first | exact dz.1 | exact dz.2.1 | exact dz.2.2.1 | exact dz.2.2.2)) (.cons (by (simp only [hp, vx, vy, vz]; rfl)) .nil))))))))))))))))))))
end Go.Proofs.Ytkgkelfdmkginaa
