/- Runs of Go code, as printed by a program: no condition beyond those that each states. -/
import Derived.Test.YtmhkbepnankopaaRkA
import Derived.Test.YtmhkbepnankopaaChecked
import Derived.KernelRfl
namespace Go.Proofs.Ytmhkbepnankopaa
set_option linter.unusedVariables false
set_option linter.unusedSimpArgs false
set_option maxRecDepth 100000
open Go.RowKit E
set_option maxHeartbeats 2000000 in
theorem radd (x y : Int) (hx : 0 ≤ x ∧ x ≤ 18446744073709551615) (hy : 0 ≤ y ∧ y ≤ 18446744073709551615) (dx : dig (d0 x) ∧ dig (d1 x) ∧ dig (d2 x) ∧ dig (d3 x)) (dy : dig (d0 y) ∧ dig (d1 y) ∧ dig (d2 y) ∧ dig (d3 y)) (vx : val4 (d0 x) (d1 x) (d2 x) (d3 x) = x) (vy : val4 (d0 y) (d1 y) (d2 y) (d3 y) = y) (dz : dig (d0 (x + y)) ∧ dig (d1 (x + y)) ∧ dig (d2 (x + y)) ∧ dig (d3 (x + y))) (vz : val4 (d0 (x + y)) (d1 (x + y)) (d2 (x + y)) (d3 (x + y)) = x + y) : PureOk Try.prog 45 ([uA x, uA y]) (uA (capU (x + y))) :=
  pure_run RkAG_ok Try.func45 (orc := ⟨[], []⟩) (obl := [(0 : Int) ≤ x,
      x ≤ (18446744073709551615 : Int),
      (0 : Int) ≤ y,
      y ≤ (18446744073709551615 : Int),
      dig (d0 x),
      dig (d1 x),
      dig (d2 x),
      dig (d3 x),
      dig (d0 y),
      dig (d1 y),
      dig (d2 y),
      dig (d3 y),
      val4 (d0 x) (d1 x) (d2 x) (d3 x) + val4 (d0 y) (d1 y) (d2 y) (d3 y) ≤ (340282366920938463463374607431768211455 : Int),
      dig (d0 (val4 (d0 x) (d1 x) (d2 x) (d3 x) + val4 (d0 y) (d1 y) (d2 y) (d3 y))),
      dig (d1 (val4 (d0 x) (d1 x) (d2 x) (d3 x) + val4 (d0 y) (d1 y) (d2 y) (d3 y))),
      dig (d2 (val4 (d0 x) (d1 x) (d2 x) (d3 x) + val4 (d0 y) (d1 y) (d2 y) (d3 y))),
      dig (d3 (val4 (d0 x) (d1 x) (d2 x) (d3 x) + val4 (d0 y) (d1 y) (d2 y) (d3 y))),
      capW (val4 (d0 (val4 (d0 x) (d1 x) (d2 x) (d3 x) + val4 (d0 y) (d1 y) (d2 y) (d3 y))) (d1 (val4 (d0 x) (d1 x) (d2 x) (d3 x) + val4 (d0 y) (d1 y) (d2 y) (d3 y))) (d2 (val4 (d0 x) (d1 x) (d2 x) (d3 x) + val4 (d0 y) (d1 y) (d2 y) (d3 y))) (d3 (val4 (d0 x) (d1 x) (d2 x) (d3 x) + val4 (d0 y) (d1 y) (d2 y) (d3 y)))) = capU (x + y)]) (by kernel_rfl) (.cons (by omega) (.cons (by omega) (.cons (by omega) (.cons (by omega) (.cons (by exact dx.1) (.cons (by exact dx.2.1) (.cons (by exact dx.2.2.1) (.cons (by exact dx.2.2.2) (.cons (by exact dy.1) (.cons (by exact dy.2.1) (.cons (by exact dy.2.2.1) (.cons (by exact dy.2.2.2) (.cons (by (simp only [vx, vy]; omega)) (.cons (by (simp only [vx, vy]; first | exact dz.1 | exact dz.2.1 | exact dz.2.2.1 | exact dz.2.2.2)) (.cons (by (simp only [vx, vy]; first | exact dz.1 | exact dz.2.1 | exact dz.2.2.1 | exact dz.2.2.2)) (.cons (by (simp only [vx, vy]; first | exact dz.1 | exact dz.2.1 | exact dz.2.2.1 | exact dz.2.2.2)) (.cons (by (simp only [vx, vy]; first | exact dz.1 | exact dz.2.1 | exact dz.2.2.1 | exact dz.2.2.2)) (.cons (by (simp only [vx, vy, vz]; rfl)) .nil))))))))))))))))))

end Go.Proofs.Ytmhkbepnankopaa
