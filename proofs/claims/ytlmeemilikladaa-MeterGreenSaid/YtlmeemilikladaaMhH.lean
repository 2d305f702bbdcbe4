/- Runs of Go code, as printed by a program: no condition beyond those that each states. -/
import Derived.Test.YtlmeemilikladaaMhG
import Derived.Test.YtlmeemilikladaaChecked
import Derived.KernelRfl
namespace Go.Proofs.Ytlmeemilikladaa
set_option linter.unusedVariables false
set_option linter.unusedSimpArgs false
set_option maxRecDepth 100000
open Go.RowKit E
set_option maxHeartbeats 2000000 in
theorem c1_bad (r n f a b x came : Int) (hr : 0 ≤ r ∧ r ≤ 18446744073709551615) (hn : 0 ≤ n ∧ n ≤ 18446744073709551615) (hf : 0 ≤ f ∧ f ≤ 18446744073709551615) (ha : 0 ≤ a ∧ a ≤ 18446744073709551615) (hb : 0 ≤ b ∧ b ≤ 18446744073709551615) (hx : 0 ≤ x ∧ x ≤ 18446744073709551615) (hk : ckOne r n f a b ≠ 0) : PureOk Try.prog 7 ([.nv (oneN r n f a b), uA x, iA came]) (.tup [oneN 0 0 0 0 0, .one (.val (.int .i64 3))]) :=
  pure_run Gq_ok Try.func7 (orc := ⟨[true], []⟩) (obl := [(0 : Int) ≤ r,
      (0 : Int) ≤ n,
      (0 : Int) ≤ f,
      (0 : Int) ≤ a,
      (0 : Int) ≤ b,
      (ckOne r n f a b != (0 : Int)) = true,
      (0 : Int) = (0 : Int),
      (0 : Int) = (0 : Int),
      (0 : Int) = (0 : Int),
      (0 : Int) = (0 : Int),
      (0 : Int) = (0 : Int),
      (3 : Int) = (3 : Int)]) (by kernel_rfl) (.cons (by omega) (.cons (by omega) (.cons (by omega) (.cons (by omega) (.cons (by omega) (.cons (by exact bne_iff_ne.2 (by omega)) (.cons (by rfl) (.cons (by rfl) (.cons (by rfl) (.cons (by rfl) (.cons (by rfl) (.cons (by rfl) .nil))))))))))))

set_option maxHeartbeats 2000000 in
theorem c1_g (r n f a b x came : Int) (hr : 0 ≤ r ∧ r ≤ 18446744073709551615) (hn : 0 ≤ n ∧ n ≤ 18446744073709551615) (hf : 0 ≤ f ∧ f ≤ 18446744073709551615) (ha : 0 ≤ a ∧ a ≤ 18446744073709551615) (hb : 0 ≤ b ∧ b ≤ 18446744073709551615) (hx : 0 ≤ x ∧ x ≤ 18446744073709551615) (hk : ckOne r n f a b = 0) (m2 : came ≠ 2) (m3 : came ≠ 3) (h : x ≤ a) : PureOk Try.prog 7 ([.nv (oneN r n f a b), uA x, iA came]) (.tup [oneN r n f (a - x) b, .one (.val (.int .i64 1))]) :=
  pure_run Gq_ok Try.func7 (orc := ⟨[false, true, true, true], []⟩) (obl := [(0 : Int) ≤ r,
      (0 : Int) ≤ n,
      (0 : Int) ≤ f,
      (0 : Int) ≤ a,
      (0 : Int) ≤ b,
      (ckOne r n f a b != (0 : Int)) = false,
      (came != (2 : Int)) = true,
      (came != (3 : Int)) = true,
      decide (a ≥ x) = true,
      r = r,
      n = n,
      f = f,
      IntKind.wrap IntKind.u64 (a - x) = a - x,
      b = b,
      (1 : Int) = (1 : Int)]) (by kernel_rfl) (.cons (by omega) (.cons (by omega) (.cons (by omega) (.cons (by omega) (.cons (by omega) (.cons (by exact bne_eq_false_iff_eq.2 (by omega)) (.cons (by exact bne_iff_ne.2 (by omega)) (.cons (by exact bne_iff_ne.2 (by omega)) (.cons (by exact decide_eq_true (by omega)) (.cons (by rfl) (.cons (by rfl) (.cons (by rfl) (.cons (by exact wU64 (by omega) (by omega)) (.cons (by rfl) (.cons (by rfl) .nil)))))))))))))))

set_option maxHeartbeats 2000000 in
theorem c1_y1 (r n f a b x came : Int) (hr : 0 ≤ r ∧ r ≤ 18446744073709551615) (hn : 0 ≤ n ∧ n ≤ 18446744073709551615) (hf : 0 ≤ f ∧ f ≤ 18446744073709551615) (ha : 0 ≤ a ∧ a ≤ 18446744073709551615) (hb : 0 ≤ b ∧ b ≤ 18446744073709551615) (hx : 0 ≤ x ∧ x ≤ 18446744073709551615) (hk : ckOne r n f a b = 0) (m2 : came = 2) (h : x ≤ b) : PureOk Try.prog 7 ([.nv (oneN r n f a b), uA x, iA came]) (.tup [oneN r n f a (b - x), .one (.val (.int .i64 2))]) :=
  pure_run Gq_ok Try.func7 (orc := ⟨[false, false, false, false, true, true], []⟩) (obl := [(0 : Int) ≤ r,
      (0 : Int) ≤ n,
      (0 : Int) ≤ f,
      (0 : Int) ≤ a,
      (0 : Int) ≤ b,
      (ckOne r n f a b != (0 : Int)) = false,
      (came != (2 : Int)) = false,
      false = false,
      false = false,
      (came != (3 : Int)) = true,
      decide (b ≥ x) = true,
      r = r,
      n = n,
      f = f,
      a = a,
      IntKind.wrap IntKind.u64 (b - x) = b - x,
      (2 : Int) = (2 : Int)]) (by kernel_rfl) (.cons (by omega) (.cons (by omega) (.cons (by omega) (.cons (by omega) (.cons (by omega) (.cons (by exact bne_eq_false_iff_eq.2 (by omega)) (.cons (by exact bne_eq_false_iff_eq.2 (by omega)) (.cons (by rfl) (.cons (by rfl) (.cons (by exact bne_iff_ne.2 (by omega)) (.cons (by exact decide_eq_true (by omega)) (.cons (by rfl) (.cons (by rfl) (.cons (by rfl) (.cons (by rfl) (.cons (by exact wU64 (by omega) (by omega)) (.cons (by rfl) .nil)))))))))))))))))

set_option maxHeartbeats 2000000 in
theorem c1_y2 (r n f a b x came : Int) (hr : 0 ≤ r ∧ r ≤ 18446744073709551615) (hn : 0 ≤ n ∧ n ≤ 18446744073709551615) (hf : 0 ≤ f ∧ f ≤ 18446744073709551615) (ha : 0 ≤ a ∧ a ≤ 18446744073709551615) (hb : 0 ≤ b ∧ b ≤ 18446744073709551615) (hx : 0 ≤ x ∧ x ≤ 18446744073709551615) (hk : ckOne r n f a b = 0) (m2 : came ≠ 2) (m3 : came ≠ 3) (h3 : a < x) (h : x ≤ b) : PureOk Try.prog 7 ([.nv (oneN r n f a b), uA x, iA came]) (.tup [oneN r n f a (b - x), .one (.val (.int .i64 2))]) :=
  pure_run Gq_ok Try.func7 (orc := ⟨[false, true, true, false, true, true], []⟩) (obl := [(0 : Int) ≤ r,
      (0 : Int) ≤ n,
      (0 : Int) ≤ f,
      (0 : Int) ≤ a,
      (0 : Int) ≤ b,
      (ckOne r n f a b != (0 : Int)) = false,
      (came != (2 : Int)) = true,
      (came != (3 : Int)) = true,
      decide (a ≥ x) = false,
      (came != (3 : Int)) = true,
      decide (b ≥ x) = true,
      r = r,
      n = n,
      f = f,
      a = a,
      IntKind.wrap IntKind.u64 (b - x) = b - x,
      (2 : Int) = (2 : Int)]) (by kernel_rfl) (.cons (by omega) (.cons (by omega) (.cons (by omega) (.cons (by omega) (.cons (by omega) (.cons (by exact bne_eq_false_iff_eq.2 (by omega)) (.cons (by exact bne_iff_ne.2 (by omega)) (.cons (by exact bne_iff_ne.2 (by omega)) (.cons (by exact decide_eq_false (by omega)) (.cons (by exact bne_iff_ne.2 (by omega)) (.cons (by exact decide_eq_true (by omega)) (.cons (by rfl) (.cons (by rfl) (.cons (by rfl) (.cons (by rfl) (.cons (by exact wU64 (by omega) (by omega)) (.cons (by rfl) .nil)))))))))))))))))

set_option maxHeartbeats 2000000 in
theorem c1_r1 (r n f a b x came : Int) (hr : 0 ≤ r ∧ r ≤ 18446744073709551615) (hn : 0 ≤ n ∧ n ≤ 18446744073709551615) (hf : 0 ≤ f ∧ f ≤ 18446744073709551615) (ha : 0 ≤ a ∧ a ≤ 18446744073709551615) (hb : 0 ≤ b ∧ b ≤ 18446744073709551615) (hx : 0 ≤ x ∧ x ≤ 18446744073709551615) (hk : ckOne r n f a b = 0) (m3 : came = 3) : PureOk Try.prog 7 ([.nv (oneN r n f a b), uA x, iA came]) (.tup [oneN r n f a b, .one (.val (.int .i64 3))]) :=
  pure_run Gq_ok Try.func7 (orc := ⟨[false, true, false, false, false, false], []⟩) (obl := [(0 : Int) ≤ r,
      (0 : Int) ≤ n,
      (0 : Int) ≤ f,
      (0 : Int) ≤ a,
      (0 : Int) ≤ b,
      (ckOne r n f a b != (0 : Int)) = false,
      (came != (2 : Int)) = true,
      (came != (3 : Int)) = false,
      false = false,
      (came != (3 : Int)) = false,
      false = false,
      r = r,
      n = n,
      f = f,
      a = a,
      b = b,
      (3 : Int) = (3 : Int)]) (by kernel_rfl) (.cons (by omega) (.cons (by omega) (.cons (by omega) (.cons (by omega) (.cons (by omega) (.cons (by exact bne_eq_false_iff_eq.2 (by omega)) (.cons (by exact bne_iff_ne.2 (by omega)) (.cons (by exact bne_eq_false_iff_eq.2 (by omega)) (.cons (by rfl) (.cons (by exact bne_eq_false_iff_eq.2 (by omega)) (.cons (by rfl) (.cons (by rfl) (.cons (by rfl) (.cons (by rfl) (.cons (by rfl) (.cons (by rfl) (.cons (by rfl) .nil)))))))))))))))))

set_option maxHeartbeats 2000000 in
theorem c1_r2 (r n f a b x came : Int) (hr : 0 ≤ r ∧ r ≤ 18446744073709551615) (hn : 0 ≤ n ∧ n ≤ 18446744073709551615) (hf : 0 ≤ f ∧ f ≤ 18446744073709551615) (ha : 0 ≤ a ∧ a ≤ 18446744073709551615) (hb : 0 ≤ b ∧ b ≤ 18446744073709551615) (hx : 0 ≤ x ∧ x ≤ 18446744073709551615) (hk : ckOne r n f a b = 0) (m2 : came = 2) (h : b < x) : PureOk Try.prog 7 ([.nv (oneN r n f a b), uA x, iA came]) (.tup [oneN r n f a b, .one (.val (.int .i64 3))]) :=
  pure_run Gq_ok Try.func7 (orc := ⟨[false, false, false, false, true, false], []⟩) (obl := [(0 : Int) ≤ r,
      (0 : Int) ≤ n,
      (0 : Int) ≤ f,
      (0 : Int) ≤ a,
      (0 : Int) ≤ b,
      (ckOne r n f a b != (0 : Int)) = false,
      (came != (2 : Int)) = false,
      false = false,
      false = false,
      (came != (3 : Int)) = true,
      decide (b ≥ x) = false,
      r = r,
      n = n,
      f = f,
      a = a,
      b = b,
      (3 : Int) = (3 : Int)]) (by kernel_rfl) (.cons (by omega) (.cons (by omega) (.cons (by omega) (.cons (by omega) (.cons (by omega) (.cons (by exact bne_eq_false_iff_eq.2 (by omega)) (.cons (by exact bne_eq_false_iff_eq.2 (by omega)) (.cons (by rfl) (.cons (by rfl) (.cons (by exact bne_iff_ne.2 (by omega)) (.cons (by exact decide_eq_false (by omega)) (.cons (by rfl) (.cons (by rfl) (.cons (by rfl) (.cons (by rfl) (.cons (by rfl) (.cons (by rfl) .nil)))))))))))))))))

set_option maxHeartbeats 2000000 in
theorem c1_r3 (r n f a b x came : Int) (hr : 0 ≤ r ∧ r ≤ 18446744073709551615) (hn : 0 ≤ n ∧ n ≤ 18446744073709551615) (hf : 0 ≤ f ∧ f ≤ 18446744073709551615) (ha : 0 ≤ a ∧ a ≤ 18446744073709551615) (hb : 0 ≤ b ∧ b ≤ 18446744073709551615) (hx : 0 ≤ x ∧ x ≤ 18446744073709551615) (hk : ckOne r n f a b = 0) (m2 : came ≠ 2) (m3 : came ≠ 3) (h3 : a < x) (h : b < x) : PureOk Try.prog 7 ([.nv (oneN r n f a b), uA x, iA came]) (.tup [oneN r n f a b, .one (.val (.int .i64 3))]) :=
  pure_run Gq_ok Try.func7 (orc := ⟨[false, true, true, false, true, false], []⟩) (obl := [(0 : Int) ≤ r,
      (0 : Int) ≤ n,
      (0 : Int) ≤ f,
      (0 : Int) ≤ a,
      (0 : Int) ≤ b,
      (ckOne r n f a b != (0 : Int)) = false,
      (came != (2 : Int)) = true,
      (came != (3 : Int)) = true,
      decide (a ≥ x) = false,
      (came != (3 : Int)) = true,
      decide (b ≥ x) = false,
      r = r,
      n = n,
      f = f,
      a = a,
      b = b,
      (3 : Int) = (3 : Int)]) (by kernel_rfl) (.cons (by omega) (.cons (by omega) (.cons (by omega) (.cons (by omega) (.cons (by omega) (.cons (by exact bne_eq_false_iff_eq.2 (by omega)) (.cons (by exact bne_iff_ne.2 (by omega)) (.cons (by exact bne_iff_ne.2 (by omega)) (.cons (by exact decide_eq_false (by omega)) (.cons (by exact bne_iff_ne.2 (by omega)) (.cons (by exact decide_eq_false (by omega)) (.cons (by rfl) (.cons (by rfl) (.cons (by rfl) (.cons (by rfl) (.cons (by rfl) (.cons (by rfl) .nil)))))))))))))))))

set_option maxHeartbeats 2000000 in
theorem c2_bad (s q n f a b x came : Int) (hs : 0 ≤ s ∧ s ≤ 18446744073709551615) (hq : 0 ≤ q ∧ q ≤ 18446744073709551615) (hn : 0 ≤ n ∧ n ≤ 18446744073709551615) (hf : 0 ≤ f ∧ f ≤ 18446744073709551615) (ha : 0 ≤ a ∧ a ≤ 18446744073709551615) (hb : 0 ≤ b ∧ b ≤ 18446744073709551615) (hx : 0 ≤ x ∧ x ≤ 18446744073709551615) (hk : ckTwo s q n f a b ≠ 0) : PureOk Try.prog 8 ([.nv (twoN s q n f a b), uA x, iA came]) (.tup [twoN 0 0 0 0 0 0, .one (.val (.int .i64 3))]) :=
  pure_run Gq_ok Try.func8 (orc := ⟨[true], []⟩) (obl := [(0 : Int) ≤ s,
      (0 : Int) ≤ q,
      (0 : Int) ≤ n,
      (0 : Int) ≤ f,
      (0 : Int) ≤ a,
      (0 : Int) ≤ b,
      (ckTwo s q n f a b != (0 : Int)) = true,
      (0 : Int) = (0 : Int),
      (0 : Int) = (0 : Int),
      (0 : Int) = (0 : Int),
      (0 : Int) = (0 : Int),
      (0 : Int) = (0 : Int),
      (0 : Int) = (0 : Int),
      (3 : Int) = (3 : Int)]) (by kernel_rfl) (.cons (by omega) (.cons (by omega) (.cons (by omega) (.cons (by omega) (.cons (by omega) (.cons (by omega) (.cons (by exact bne_iff_ne.2 (by omega)) (.cons (by rfl) (.cons (by rfl) (.cons (by rfl) (.cons (by rfl) (.cons (by rfl) (.cons (by rfl) (.cons (by rfl) .nil))))))))))))))

set_option maxHeartbeats 2000000 in
theorem c2_r1 (s q n f a b x came : Int) (hs : 0 ≤ s ∧ s ≤ 18446744073709551615) (hq : 0 ≤ q ∧ q ≤ 18446744073709551615) (hn : 0 ≤ n ∧ n ≤ 18446744073709551615) (hf : 0 ≤ f ∧ f ≤ 18446744073709551615) (ha : 0 ≤ a ∧ a ≤ 18446744073709551615) (hb : 0 ≤ b ∧ b ≤ 18446744073709551615) (hx : 0 ≤ x ∧ x ≤ 18446744073709551615) (hk : ckTwo s q n f a b = 0) (m3 : came = 3) : PureOk Try.prog 8 ([.nv (twoN s q n f a b), uA x, iA came]) (.tup [twoN s q n f a b, .one (.val (.int .i64 3))]) :=
  pure_run Gq_ok Try.func8 (orc := ⟨[false, true, true], []⟩) (obl := [(0 : Int) ≤ s,
      (0 : Int) ≤ q,
      (0 : Int) ≤ n,
      (0 : Int) ≤ f,
      (0 : Int) ≤ a,
      (0 : Int) ≤ b,
      (ckTwo s q n f a b != (0 : Int)) = false,
      (came == (3 : Int)) = true,
      true = true,
      s = s,
      q = q,
      n = n,
      f = f,
      a = a,
      b = b,
      (3 : Int) = (3 : Int)]) (by kernel_rfl) (.cons (by omega) (.cons (by omega) (.cons (by omega) (.cons (by omega) (.cons (by omega) (.cons (by omega) (.cons (by exact bne_eq_false_iff_eq.2 (by omega)) (.cons (by exact decide_eq_true (by omega)) (.cons (by rfl) (.cons (by rfl) (.cons (by rfl) (.cons (by rfl) (.cons (by rfl) (.cons (by rfl) (.cons (by rfl) (.cons (by rfl) .nil))))))))))))))))

set_option maxHeartbeats 2000000 in
theorem c2_r2 (s q n f a b x came : Int) (hs : 0 ≤ s ∧ s ≤ 18446744073709551615) (hq : 0 ≤ q ∧ q ≤ 18446744073709551615) (hn : 0 ≤ n ∧ n ≤ 18446744073709551615) (hf : 0 ≤ f ∧ f ≤ 18446744073709551615) (ha : 0 ≤ a ∧ a ≤ 18446744073709551615) (hb : 0 ≤ b ∧ b ≤ 18446744073709551615) (hx : 0 ≤ x ∧ x ≤ 18446744073709551615) (hk : ckTwo s q n f a b = 0) (m3 : came ≠ 3) (h : b < x) : PureOk Try.prog 8 ([.nv (twoN s q n f a b), uA x, iA came]) (.tup [twoN s q n f a b, .one (.val (.int .i64 3))]) :=
  pure_run Gq_ok Try.func8 (orc := ⟨[false, false, true], []⟩) (obl := [(0 : Int) ≤ s,
      (0 : Int) ≤ q,
      (0 : Int) ≤ n,
      (0 : Int) ≤ f,
      (0 : Int) ≤ a,
      (0 : Int) ≤ b,
      (ckTwo s q n f a b != (0 : Int)) = false,
      (came == (3 : Int)) = false,
      decide (b < x) = true,
      s = s,
      q = q,
      n = n,
      f = f,
      a = a,
      b = b,
      (3 : Int) = (3 : Int)]) (by kernel_rfl) (.cons (by omega) (.cons (by omega) (.cons (by omega) (.cons (by omega) (.cons (by omega) (.cons (by omega) (.cons (by exact bne_eq_false_iff_eq.2 (by omega)) (.cons (by exact decide_eq_false (by omega)) (.cons (by exact decide_eq_true (by omega)) (.cons (by rfl) (.cons (by rfl) (.cons (by rfl) (.cons (by rfl) (.cons (by rfl) (.cons (by rfl) (.cons (by rfl) .nil))))))))))))))))

set_option maxHeartbeats 2000000 in
theorem c2_y1 (s q n f a b x came : Int) (hs : 0 ≤ s ∧ s ≤ 18446744073709551615) (hq : 0 ≤ q ∧ q ≤ 18446744073709551615) (hn : 0 ≤ n ∧ n ≤ 18446744073709551615) (hf : 0 ≤ f ∧ f ≤ 18446744073709551615) (ha : 0 ≤ a ∧ a ≤ 18446744073709551615) (hb : 0 ≤ b ∧ b ≤ 18446744073709551615) (hx : 0 ≤ x ∧ x ≤ 18446744073709551615) (hk : ckTwo s q n f a b = 0) (m2 : came = 2) (h : x ≤ b) : PureOk Try.prog 8 ([.nv (twoN s q n f a b), uA x, iA came]) (.tup [twoN s q n f a (b - x), .one (.val (.int .i64 2))]) :=
  pure_run Gq_ok Try.func8 (orc := ⟨[false, false, false, true, true], []⟩) (obl := [(0 : Int) ≤ s,
      (0 : Int) ≤ q,
      (0 : Int) ≤ n,
      (0 : Int) ≤ f,
      (0 : Int) ≤ a,
      (0 : Int) ≤ b,
      (ckTwo s q n f a b != (0 : Int)) = false,
      (came == (3 : Int)) = false,
      decide (b < x) = false,
      (came == (2 : Int)) = true,
      true = true,
      s = s,
      q = q,
      n = n,
      f = f,
      a = a,
      IntKind.wrap IntKind.u64 (b - x) = b - x,
      (2 : Int) = (2 : Int)]) (by kernel_rfl) (.cons (by omega) (.cons (by omega) (.cons (by omega) (.cons (by omega) (.cons (by omega) (.cons (by omega) (.cons (by exact bne_eq_false_iff_eq.2 (by omega)) (.cons (by exact decide_eq_false (by omega)) (.cons (by exact decide_eq_false (by omega)) (.cons (by exact decide_eq_true (by omega)) (.cons (by rfl) (.cons (by rfl) (.cons (by rfl) (.cons (by rfl) (.cons (by rfl) (.cons (by rfl) (.cons (by exact wU64 (by omega) (by omega)) (.cons (by rfl) .nil))))))))))))))))))

set_option maxHeartbeats 2000000 in
theorem c2_y2 (s q n f a b x came : Int) (hs : 0 ≤ s ∧ s ≤ 18446744073709551615) (hq : 0 ≤ q ∧ q ≤ 18446744073709551615) (hn : 0 ≤ n ∧ n ≤ 18446744073709551615) (hf : 0 ≤ f ∧ f ≤ 18446744073709551615) (ha : 0 ≤ a ∧ a ≤ 18446744073709551615) (hb : 0 ≤ b ∧ b ≤ 18446744073709551615) (hx : 0 ≤ x ∧ x ≤ 18446744073709551615) (hk : ckTwo s q n f a b = 0) (m2 : came ≠ 2) (m3 : came ≠ 3) (h : x ≤ b) (h3 : a < x) : PureOk Try.prog 8 ([.nv (twoN s q n f a b), uA x, iA came]) (.tup [twoN s q n f a (b - x), .one (.val (.int .i64 2))]) :=
  pure_run Gq_ok Try.func8 (orc := ⟨[false, false, false, false, true], []⟩) (obl := [(0 : Int) ≤ s,
      (0 : Int) ≤ q,
      (0 : Int) ≤ n,
      (0 : Int) ≤ f,
      (0 : Int) ≤ a,
      (0 : Int) ≤ b,
      (ckTwo s q n f a b != (0 : Int)) = false,
      (came == (3 : Int)) = false,
      decide (b < x) = false,
      (came == (2 : Int)) = false,
      decide (a < x) = true,
      s = s,
      q = q,
      n = n,
      f = f,
      a = a,
      IntKind.wrap IntKind.u64 (b - x) = b - x,
      (2 : Int) = (2 : Int)]) (by kernel_rfl) (.cons (by omega) (.cons (by omega) (.cons (by omega) (.cons (by omega) (.cons (by omega) (.cons (by omega) (.cons (by exact bne_eq_false_iff_eq.2 (by omega)) (.cons (by exact decide_eq_false (by omega)) (.cons (by exact decide_eq_false (by omega)) (.cons (by exact decide_eq_false (by omega)) (.cons (by exact decide_eq_true (by omega)) (.cons (by rfl) (.cons (by rfl) (.cons (by rfl) (.cons (by rfl) (.cons (by rfl) (.cons (by exact wU64 (by omega) (by omega)) (.cons (by rfl) .nil))))))))))))))))))

set_option maxHeartbeats 2000000 in
theorem c2_g (s q n f a b x came : Int) (hs : 0 ≤ s ∧ s ≤ 18446744073709551615) (hq : 0 ≤ q ∧ q ≤ 18446744073709551615) (hn : 0 ≤ n ∧ n ≤ 18446744073709551615) (hf : 0 ≤ f ∧ f ≤ 18446744073709551615) (ha : 0 ≤ a ∧ a ≤ 18446744073709551615) (hb : 0 ≤ b ∧ b ≤ 18446744073709551615) (hx : 0 ≤ x ∧ x ≤ 18446744073709551615) (hk : ckTwo s q n f a b = 0) (m2 : came ≠ 2) (m3 : came ≠ 3) (h : x ≤ b) (h3 : x ≤ a) : PureOk Try.prog 8 ([.nv (twoN s q n f a b), uA x, iA came]) (.tup [twoN s q n f (a - x) (b - x), .one (.val (.int .i64 1))]) :=
  pure_run Gq_ok Try.func8 (orc := ⟨[false, false, false, false, false], []⟩) (obl := [(0 : Int) ≤ s,
      (0 : Int) ≤ q,
      (0 : Int) ≤ n,
      (0 : Int) ≤ f,
      (0 : Int) ≤ a,
      (0 : Int) ≤ b,
      (ckTwo s q n f a b != (0 : Int)) = false,
      (came == (3 : Int)) = false,
      decide (b < x) = false,
      (came == (2 : Int)) = false,
      decide (a < x) = false,
      s = s,
      q = q,
      n = n,
      f = f,
      IntKind.wrap IntKind.u64 (a - x) = a - x,
      IntKind.wrap IntKind.u64 (b - x) = b - x,
      (1 : Int) = (1 : Int)]) (by kernel_rfl) (.cons (by omega) (.cons (by omega) (.cons (by omega) (.cons (by omega) (.cons (by omega) (.cons (by omega) (.cons (by exact bne_eq_false_iff_eq.2 (by omega)) (.cons (by exact decide_eq_false (by omega)) (.cons (by exact decide_eq_false (by omega)) (.cons (by exact decide_eq_false (by omega)) (.cons (by exact decide_eq_false (by omega)) (.cons (by rfl) (.cons (by rfl) (.cons (by rfl) (.cons (by rfl) (.cons (by exact wU64 (by omega) (by omega)) (.cons (by exact wU64 (by omega) (by omega)) (.cons (by rfl) .nil))))))))))))))))))

set_option maxHeartbeats 2000000 in
theorem rc1_bad (r n f a b x came : Int) (hr : 0 ≤ r ∧ r ≤ 18446744073709551615) (hn : 0 ≤ n ∧ n ≤ 18446744073709551615) (hf : 0 ≤ f ∧ f ≤ 18446744073709551615) (ha : 0 ≤ a ∧ a ≤ 18446744073709551615) (hb : 0 ≤ b ∧ b ≤ 18446744073709551615) (hx : 0 ≤ x ∧ x ≤ 18446744073709551615) (hk : ckOne r n f a b ≠ 0) : PureOk Try.prog 18 ([.nv (oneN r n f a b), uA x, iA came]) (.tup [oneN 0 0 0 0 0, .one (.val (.int .i64 3))]) :=
  pure_run Gq_ok Try.func18 (orc := ⟨[true], []⟩) (obl := [(0 : Int) ≤ r,
      (0 : Int) ≤ n,
      (0 : Int) ≤ f,
      (0 : Int) ≤ a,
      (0 : Int) ≤ b,
      (ckOne r n f a b != (0 : Int)) = true,
      (0 : Int) = (0 : Int),
      (0 : Int) = (0 : Int),
      (0 : Int) = (0 : Int),
      (0 : Int) = (0 : Int),
      (0 : Int) = (0 : Int),
      (3 : Int) = (3 : Int)]) (by kernel_rfl) (.cons (by omega) (.cons (by omega) (.cons (by omega) (.cons (by omega) (.cons (by omega) (.cons (by exact bne_iff_ne.2 (by omega)) (.cons (by rfl) (.cons (by rfl) (.cons (by rfl) (.cons (by rfl) (.cons (by rfl) (.cons (by rfl) .nil))))))))))))

set_option maxHeartbeats 2000000 in
theorem rc1_g (r n f a b x came : Int) (hr : 0 ≤ r ∧ r ≤ 18446744073709551615) (hn : 0 ≤ n ∧ n ≤ 18446744073709551615) (hf : 0 ≤ f ∧ f ≤ 18446744073709551615) (ha : 0 ≤ a ∧ a ≤ 18446744073709551615) (hb : 0 ≤ b ∧ b ≤ 18446744073709551615) (hx : 0 ≤ x ∧ x ≤ 18446744073709551615) (hk : ckOne r n f a b = 0) (m2 : came ≠ 2) (m3 : came ≠ 3) (h : x ≤ a) : PureOk Try.prog 18 ([.nv (oneN r n f a b), uA x, iA came]) (.tup [oneN r n f (a - x) b, .one (.val (.int .i64 1))]) :=
  pure_run Gq_ok Try.func18 (orc := ⟨[false, true, true, true], []⟩) (obl := [(0 : Int) ≤ r,
      (0 : Int) ≤ n,
      (0 : Int) ≤ f,
      (0 : Int) ≤ a,
      (0 : Int) ≤ b,
      (ckOne r n f a b != (0 : Int)) = false,
      (came != (2 : Int)) = true,
      (came != (3 : Int)) = true,
      decide (x ≤ a) = true,
      r = r,
      n = n,
      f = f,
      IntKind.wrap IntKind.u64 (a - x) = a - x,
      b = b,
      (1 : Int) = (1 : Int)]) (by kernel_rfl) (.cons (by omega) (.cons (by omega) (.cons (by omega) (.cons (by omega) (.cons (by omega) (.cons (by exact bne_eq_false_iff_eq.2 (by omega)) (.cons (by exact bne_iff_ne.2 (by omega)) (.cons (by exact bne_iff_ne.2 (by omega)) (.cons (by exact decide_eq_true (by omega)) (.cons (by rfl) (.cons (by rfl) (.cons (by rfl) (.cons (by exact wU64 (by omega) (by omega)) (.cons (by rfl) (.cons (by rfl) .nil)))))))))))))))

set_option maxHeartbeats 2000000 in
theorem rc1_y1 (r n f a b x came : Int) (hr : 0 ≤ r ∧ r ≤ 18446744073709551615) (hn : 0 ≤ n ∧ n ≤ 18446744073709551615) (hf : 0 ≤ f ∧ f ≤ 18446744073709551615) (ha : 0 ≤ a ∧ a ≤ 18446744073709551615) (hb : 0 ≤ b ∧ b ≤ 18446744073709551615) (hx : 0 ≤ x ∧ x ≤ 18446744073709551615) (hk : ckOne r n f a b = 0) (m2 : came = 2) (h : x ≤ b) : PureOk Try.prog 18 ([.nv (oneN r n f a b), uA x, iA came]) (.tup [oneN r n f a (b - x), .one (.val (.int .i64 2))]) :=
  pure_run Gq_ok Try.func18 (orc := ⟨[false, false, false, false, true, true], []⟩) (obl := [(0 : Int) ≤ r,
      (0 : Int) ≤ n,
      (0 : Int) ≤ f,
      (0 : Int) ≤ a,
      (0 : Int) ≤ b,
      (ckOne r n f a b != (0 : Int)) = false,
      (came != (2 : Int)) = false,
      false = false,
      false = false,
      (came != (3 : Int)) = true,
      decide (x ≤ b) = true,
      r = r,
      n = n,
      f = f,
      a = a,
      IntKind.wrap IntKind.u64 (b - x) = b - x,
      (2 : Int) = (2 : Int)]) (by kernel_rfl) (.cons (by omega) (.cons (by omega) (.cons (by omega) (.cons (by omega) (.cons (by omega) (.cons (by exact bne_eq_false_iff_eq.2 (by omega)) (.cons (by exact bne_eq_false_iff_eq.2 (by omega)) (.cons (by rfl) (.cons (by rfl) (.cons (by exact bne_iff_ne.2 (by omega)) (.cons (by exact decide_eq_true (by omega)) (.cons (by rfl) (.cons (by rfl) (.cons (by rfl) (.cons (by rfl) (.cons (by exact wU64 (by omega) (by omega)) (.cons (by rfl) .nil)))))))))))))))))

set_option maxHeartbeats 2000000 in
theorem rc1_y2 (r n f a b x came : Int) (hr : 0 ≤ r ∧ r ≤ 18446744073709551615) (hn : 0 ≤ n ∧ n ≤ 18446744073709551615) (hf : 0 ≤ f ∧ f ≤ 18446744073709551615) (ha : 0 ≤ a ∧ a ≤ 18446744073709551615) (hb : 0 ≤ b ∧ b ≤ 18446744073709551615) (hx : 0 ≤ x ∧ x ≤ 18446744073709551615) (hk : ckOne r n f a b = 0) (m2 : came ≠ 2) (m3 : came ≠ 3) (h3 : a < x) (h : x ≤ b) : PureOk Try.prog 18 ([.nv (oneN r n f a b), uA x, iA came]) (.tup [oneN r n f a (b - x), .one (.val (.int .i64 2))]) :=
  pure_run Gq_ok Try.func18 (orc := ⟨[false, true, true, false, true, true], []⟩) (obl := [(0 : Int) ≤ r,
      (0 : Int) ≤ n,
      (0 : Int) ≤ f,
      (0 : Int) ≤ a,
      (0 : Int) ≤ b,
      (ckOne r n f a b != (0 : Int)) = false,
      (came != (2 : Int)) = true,
      (came != (3 : Int)) = true,
      decide (x ≤ a) = false,
      (came != (3 : Int)) = true,
      decide (x ≤ b) = true,
      r = r,
      n = n,
      f = f,
      a = a,
      IntKind.wrap IntKind.u64 (b - x) = b - x,
      (2 : Int) = (2 : Int)]) (by kernel_rfl) (.cons (by omega) (.cons (by omega) (.cons (by omega) (.cons (by omega) (.cons (by omega) (.cons (by exact bne_eq_false_iff_eq.2 (by omega)) (.cons (by exact bne_iff_ne.2 (by omega)) (.cons (by exact bne_iff_ne.2 (by omega)) (.cons (by exact decide_eq_false (by omega)) (.cons (by exact bne_iff_ne.2 (by omega)) (.cons (by exact decide_eq_true (by omega)) (.cons (by rfl) (.cons (by rfl) (.cons (by rfl) (.cons (by rfl) (.cons (by exact wU64 (by omega) (by omega)) (.cons (by rfl) .nil)))))))))))))))))

set_option maxHeartbeats 2000000 in
theorem rc1_r1 (r n f a b x came : Int) (hr : 0 ≤ r ∧ r ≤ 18446744073709551615) (hn : 0 ≤ n ∧ n ≤ 18446744073709551615) (hf : 0 ≤ f ∧ f ≤ 18446744073709551615) (ha : 0 ≤ a ∧ a ≤ 18446744073709551615) (hb : 0 ≤ b ∧ b ≤ 18446744073709551615) (hx : 0 ≤ x ∧ x ≤ 18446744073709551615) (hk : ckOne r n f a b = 0) (m3 : came = 3) : PureOk Try.prog 18 ([.nv (oneN r n f a b), uA x, iA came]) (.tup [oneN r n f a b, .one (.val (.int .i64 3))]) :=
  pure_run Gq_ok Try.func18 (orc := ⟨[false, true, false, false, false, false], []⟩) (obl := [(0 : Int) ≤ r,
      (0 : Int) ≤ n,
      (0 : Int) ≤ f,
      (0 : Int) ≤ a,
      (0 : Int) ≤ b,
      (ckOne r n f a b != (0 : Int)) = false,
      (came != (2 : Int)) = true,
      (came != (3 : Int)) = false,
      false = false,
      (came != (3 : Int)) = false,
      false = false,
      r = r,
      n = n,
      f = f,
      a = a,
      b = b,
      (3 : Int) = (3 : Int)]) (by kernel_rfl) (.cons (by omega) (.cons (by omega) (.cons (by omega) (.cons (by omega) (.cons (by omega) (.cons (by exact bne_eq_false_iff_eq.2 (by omega)) (.cons (by exact bne_iff_ne.2 (by omega)) (.cons (by exact bne_eq_false_iff_eq.2 (by omega)) (.cons (by rfl) (.cons (by exact bne_eq_false_iff_eq.2 (by omega)) (.cons (by rfl) (.cons (by rfl) (.cons (by rfl) (.cons (by rfl) (.cons (by rfl) (.cons (by rfl) (.cons (by rfl) .nil)))))))))))))))))

set_option maxHeartbeats 2000000 in
theorem rc1_r2 (r n f a b x came : Int) (hr : 0 ≤ r ∧ r ≤ 18446744073709551615) (hn : 0 ≤ n ∧ n ≤ 18446744073709551615) (hf : 0 ≤ f ∧ f ≤ 18446744073709551615) (ha : 0 ≤ a ∧ a ≤ 18446744073709551615) (hb : 0 ≤ b ∧ b ≤ 18446744073709551615) (hx : 0 ≤ x ∧ x ≤ 18446744073709551615) (hk : ckOne r n f a b = 0) (m2 : came = 2) (h : b < x) : PureOk Try.prog 18 ([.nv (oneN r n f a b), uA x, iA came]) (.tup [oneN r n f a b, .one (.val (.int .i64 3))]) :=
  pure_run Gq_ok Try.func18 (orc := ⟨[false, false, false, false, true, false], []⟩) (obl := [(0 : Int) ≤ r,
      (0 : Int) ≤ n,
      (0 : Int) ≤ f,
      (0 : Int) ≤ a,
      (0 : Int) ≤ b,
      (ckOne r n f a b != (0 : Int)) = false,
      (came != (2 : Int)) = false,
      false = false,
      false = false,
      (came != (3 : Int)) = true,
      decide (x ≤ b) = false,
      r = r,
      n = n,
      f = f,
      a = a,
      b = b,
      (3 : Int) = (3 : Int)]) (by kernel_rfl) (.cons (by omega) (.cons (by omega) (.cons (by omega) (.cons (by omega) (.cons (by omega) (.cons (by exact bne_eq_false_iff_eq.2 (by omega)) (.cons (by exact bne_eq_false_iff_eq.2 (by omega)) (.cons (by rfl) (.cons (by rfl) (.cons (by exact bne_iff_ne.2 (by omega)) (.cons (by exact decide_eq_false (by omega)) (.cons (by rfl) (.cons (by rfl) (.cons (by rfl) (.cons (by rfl) (.cons (by rfl) (.cons (by rfl) .nil)))))))))))))))))

set_option maxHeartbeats 2000000 in
theorem rc1_r3 (r n f a b x came : Int) (hr : 0 ≤ r ∧ r ≤ 18446744073709551615) (hn : 0 ≤ n ∧ n ≤ 18446744073709551615) (hf : 0 ≤ f ∧ f ≤ 18446744073709551615) (ha : 0 ≤ a ∧ a ≤ 18446744073709551615) (hb : 0 ≤ b ∧ b ≤ 18446744073709551615) (hx : 0 ≤ x ∧ x ≤ 18446744073709551615) (hk : ckOne r n f a b = 0) (m2 : came ≠ 2) (m3 : came ≠ 3) (h3 : a < x) (h : b < x) : PureOk Try.prog 18 ([.nv (oneN r n f a b), uA x, iA came]) (.tup [oneN r n f a b, .one (.val (.int .i64 3))]) :=
  pure_run Gq_ok Try.func18 (orc := ⟨[false, true, true, false, true, false], []⟩) (obl := [(0 : Int) ≤ r,
      (0 : Int) ≤ n,
      (0 : Int) ≤ f,
      (0 : Int) ≤ a,
      (0 : Int) ≤ b,
      (ckOne r n f a b != (0 : Int)) = false,
      (came != (2 : Int)) = true,
      (came != (3 : Int)) = true,
      decide (x ≤ a) = false,
      (came != (3 : Int)) = true,
      decide (x ≤ b) = false,
      r = r,
      n = n,
      f = f,
      a = a,
      b = b,
      (3 : Int) = (3 : Int)]) (by kernel_rfl) (.cons (by omega) (.cons (by omega) (.cons (by omega) (.cons (by omega) (.cons (by omega) (.cons (by exact bne_eq_false_iff_eq.2 (by omega)) (.cons (by exact bne_iff_ne.2 (by omega)) (.cons (by exact bne_iff_ne.2 (by omega)) (.cons (by exact decide_eq_false (by omega)) (.cons (by exact bne_iff_ne.2 (by omega)) (.cons (by exact decide_eq_false (by omega)) (.cons (by rfl) (.cons (by rfl) (.cons (by rfl) (.cons (by rfl) (.cons (by rfl) (.cons (by rfl) .nil)))))))))))))))))

set_option maxHeartbeats 2000000 in
theorem rc2_bad (s q n f a b x came : Int) (hs : 0 ≤ s ∧ s ≤ 18446744073709551615) (hq : 0 ≤ q ∧ q ≤ 18446744073709551615) (hn : 0 ≤ n ∧ n ≤ 18446744073709551615) (hf : 0 ≤ f ∧ f ≤ 18446744073709551615) (ha : 0 ≤ a ∧ a ≤ 18446744073709551615) (hb : 0 ≤ b ∧ b ≤ 18446744073709551615) (hx : 0 ≤ x ∧ x ≤ 18446744073709551615) (hk : ckTwo s q n f a b ≠ 0) : PureOk Try.prog 19 ([.nv (twoN s q n f a b), uA x, iA came]) (.tup [twoN 0 0 0 0 0 0, .one (.val (.int .i64 3))]) :=
  pure_run Gq_ok Try.func19 (orc := ⟨[true], []⟩) (obl := [(0 : Int) ≤ s,
      (0 : Int) ≤ q,
      (0 : Int) ≤ n,
      (0 : Int) ≤ f,
      (0 : Int) ≤ a,
      (0 : Int) ≤ b,
      (ckTwo s q n f a b != (0 : Int)) = true,
      (0 : Int) = (0 : Int),
      (0 : Int) = (0 : Int),
      (0 : Int) = (0 : Int),
      (0 : Int) = (0 : Int),
      (0 : Int) = (0 : Int),
      (0 : Int) = (0 : Int),
      (3 : Int) = (3 : Int)]) (by kernel_rfl) (.cons (by omega) (.cons (by omega) (.cons (by omega) (.cons (by omega) (.cons (by omega) (.cons (by omega) (.cons (by exact bne_iff_ne.2 (by omega)) (.cons (by rfl) (.cons (by rfl) (.cons (by rfl) (.cons (by rfl) (.cons (by rfl) (.cons (by rfl) (.cons (by rfl) .nil))))))))))))))

set_option maxHeartbeats 2000000 in
theorem rc2_r1 (s q n f a b x came : Int) (hs : 0 ≤ s ∧ s ≤ 18446744073709551615) (hq : 0 ≤ q ∧ q ≤ 18446744073709551615) (hn : 0 ≤ n ∧ n ≤ 18446744073709551615) (hf : 0 ≤ f ∧ f ≤ 18446744073709551615) (ha : 0 ≤ a ∧ a ≤ 18446744073709551615) (hb : 0 ≤ b ∧ b ≤ 18446744073709551615) (hx : 0 ≤ x ∧ x ≤ 18446744073709551615) (hk : ckTwo s q n f a b = 0) (m3 : came = 3) : PureOk Try.prog 19 ([.nv (twoN s q n f a b), uA x, iA came]) (.tup [twoN s q n f a b, .one (.val (.int .i64 3))]) :=
  pure_run Gq_ok Try.func19 (orc := ⟨[false, true, true], []⟩) (obl := [(0 : Int) ≤ s,
      (0 : Int) ≤ q,
      (0 : Int) ≤ n,
      (0 : Int) ≤ f,
      (0 : Int) ≤ a,
      (0 : Int) ≤ b,
      (ckTwo s q n f a b != (0 : Int)) = false,
      (came == (3 : Int)) = true,
      true = true,
      s = s,
      q = q,
      n = n,
      f = f,
      a = a,
      b = b,
      (3 : Int) = (3 : Int)]) (by kernel_rfl) (.cons (by omega) (.cons (by omega) (.cons (by omega) (.cons (by omega) (.cons (by omega) (.cons (by omega) (.cons (by exact bne_eq_false_iff_eq.2 (by omega)) (.cons (by exact decide_eq_true (by omega)) (.cons (by rfl) (.cons (by rfl) (.cons (by rfl) (.cons (by rfl) (.cons (by rfl) (.cons (by rfl) (.cons (by rfl) (.cons (by rfl) .nil))))))))))))))))

set_option maxHeartbeats 2000000 in
theorem rc2_r2 (s q n f a b x came : Int) (hs : 0 ≤ s ∧ s ≤ 18446744073709551615) (hq : 0 ≤ q ∧ q ≤ 18446744073709551615) (hn : 0 ≤ n ∧ n ≤ 18446744073709551615) (hf : 0 ≤ f ∧ f ≤ 18446744073709551615) (ha : 0 ≤ a ∧ a ≤ 18446744073709551615) (hb : 0 ≤ b ∧ b ≤ 18446744073709551615) (hx : 0 ≤ x ∧ x ≤ 18446744073709551615) (hk : ckTwo s q n f a b = 0) (m3 : came ≠ 3) (h : b < x) : PureOk Try.prog 19 ([.nv (twoN s q n f a b), uA x, iA came]) (.tup [twoN s q n f a b, .one (.val (.int .i64 3))]) :=
  pure_run Gq_ok Try.func19 (orc := ⟨[false, false, true], []⟩) (obl := [(0 : Int) ≤ s,
      (0 : Int) ≤ q,
      (0 : Int) ≤ n,
      (0 : Int) ≤ f,
      (0 : Int) ≤ a,
      (0 : Int) ≤ b,
      (ckTwo s q n f a b != (0 : Int)) = false,
      (came == (3 : Int)) = false,
      decide (x > b) = true,
      s = s,
      q = q,
      n = n,
      f = f,
      a = a,
      b = b,
      (3 : Int) = (3 : Int)]) (by kernel_rfl) (.cons (by omega) (.cons (by omega) (.cons (by omega) (.cons (by omega) (.cons (by omega) (.cons (by omega) (.cons (by exact bne_eq_false_iff_eq.2 (by omega)) (.cons (by exact decide_eq_false (by omega)) (.cons (by exact decide_eq_true (by omega)) (.cons (by rfl) (.cons (by rfl) (.cons (by rfl) (.cons (by rfl) (.cons (by rfl) (.cons (by rfl) (.cons (by rfl) .nil))))))))))))))))

set_option maxHeartbeats 2000000 in
theorem rc2_y1 (s q n f a b x came : Int) (hs : 0 ≤ s ∧ s ≤ 18446744073709551615) (hq : 0 ≤ q ∧ q ≤ 18446744073709551615) (hn : 0 ≤ n ∧ n ≤ 18446744073709551615) (hf : 0 ≤ f ∧ f ≤ 18446744073709551615) (ha : 0 ≤ a ∧ a ≤ 18446744073709551615) (hb : 0 ≤ b ∧ b ≤ 18446744073709551615) (hx : 0 ≤ x ∧ x ≤ 18446744073709551615) (hk : ckTwo s q n f a b = 0) (m2 : came = 2) (h : x ≤ b) : PureOk Try.prog 19 ([.nv (twoN s q n f a b), uA x, iA came]) (.tup [twoN s q n f a (b - x), .one (.val (.int .i64 2))]) :=
  pure_run Gq_ok Try.func19 (orc := ⟨[false, false, false, true, true], []⟩) (obl := [(0 : Int) ≤ s,
      (0 : Int) ≤ q,
      (0 : Int) ≤ n,
      (0 : Int) ≤ f,
      (0 : Int) ≤ a,
      (0 : Int) ≤ b,
      (ckTwo s q n f a b != (0 : Int)) = false,
      (came == (3 : Int)) = false,
      decide (x > b) = false,
      (came == (2 : Int)) = true,
      true = true,
      s = s,
      q = q,
      n = n,
      f = f,
      a = a,
      IntKind.wrap IntKind.u64 (b - x) = b - x,
      (2 : Int) = (2 : Int)]) (by kernel_rfl) (.cons (by omega) (.cons (by omega) (.cons (by omega) (.cons (by omega) (.cons (by omega) (.cons (by omega) (.cons (by exact bne_eq_false_iff_eq.2 (by omega)) (.cons (by exact decide_eq_false (by omega)) (.cons (by exact decide_eq_false (by omega)) (.cons (by exact decide_eq_true (by omega)) (.cons (by rfl) (.cons (by rfl) (.cons (by rfl) (.cons (by rfl) (.cons (by rfl) (.cons (by rfl) (.cons (by exact wU64 (by omega) (by omega)) (.cons (by rfl) .nil))))))))))))))))))

set_option maxHeartbeats 2000000 in
theorem rc2_y2 (s q n f a b x came : Int) (hs : 0 ≤ s ∧ s ≤ 18446744073709551615) (hq : 0 ≤ q ∧ q ≤ 18446744073709551615) (hn : 0 ≤ n ∧ n ≤ 18446744073709551615) (hf : 0 ≤ f ∧ f ≤ 18446744073709551615) (ha : 0 ≤ a ∧ a ≤ 18446744073709551615) (hb : 0 ≤ b ∧ b ≤ 18446744073709551615) (hx : 0 ≤ x ∧ x ≤ 18446744073709551615) (hk : ckTwo s q n f a b = 0) (m2 : came ≠ 2) (m3 : came ≠ 3) (h : x ≤ b) (h3 : a < x) : PureOk Try.prog 19 ([.nv (twoN s q n f a b), uA x, iA came]) (.tup [twoN s q n f a (b - x), .one (.val (.int .i64 2))]) :=
  pure_run Gq_ok Try.func19 (orc := ⟨[false, false, false, false, true], []⟩) (obl := [(0 : Int) ≤ s,
      (0 : Int) ≤ q,
      (0 : Int) ≤ n,
      (0 : Int) ≤ f,
      (0 : Int) ≤ a,
      (0 : Int) ≤ b,
      (ckTwo s q n f a b != (0 : Int)) = false,
      (came == (3 : Int)) = false,
      decide (x > b) = false,
      (came == (2 : Int)) = false,
      decide (x > a) = true,
      s = s,
      q = q,
      n = n,
      f = f,
      a = a,
      IntKind.wrap IntKind.u64 (b - x) = b - x,
      (2 : Int) = (2 : Int)]) (by kernel_rfl) (.cons (by omega) (.cons (by omega) (.cons (by omega) (.cons (by omega) (.cons (by omega) (.cons (by omega) (.cons (by exact bne_eq_false_iff_eq.2 (by omega)) (.cons (by exact decide_eq_false (by omega)) (.cons (by exact decide_eq_false (by omega)) (.cons (by exact decide_eq_false (by omega)) (.cons (by exact decide_eq_true (by omega)) (.cons (by rfl) (.cons (by rfl) (.cons (by rfl) (.cons (by rfl) (.cons (by rfl) (.cons (by exact wU64 (by omega) (by omega)) (.cons (by rfl) .nil))))))))))))))))))

set_option maxHeartbeats 2000000 in
theorem rc2_g (s q n f a b x came : Int) (hs : 0 ≤ s ∧ s ≤ 18446744073709551615) (hq : 0 ≤ q ∧ q ≤ 18446744073709551615) (hn : 0 ≤ n ∧ n ≤ 18446744073709551615) (hf : 0 ≤ f ∧ f ≤ 18446744073709551615) (ha : 0 ≤ a ∧ a ≤ 18446744073709551615) (hb : 0 ≤ b ∧ b ≤ 18446744073709551615) (hx : 0 ≤ x ∧ x ≤ 18446744073709551615) (hk : ckTwo s q n f a b = 0) (m2 : came ≠ 2) (m3 : came ≠ 3) (h : x ≤ b) (h3 : x ≤ a) : PureOk Try.prog 19 ([.nv (twoN s q n f a b), uA x, iA came]) (.tup [twoN s q n f (a - x) (b - x), .one (.val (.int .i64 1))]) :=
  pure_run Gq_ok Try.func19 (orc := ⟨[false, false, false, false, false], []⟩) (obl := [(0 : Int) ≤ s,
      (0 : Int) ≤ q,
      (0 : Int) ≤ n,
      (0 : Int) ≤ f,
      (0 : Int) ≤ a,
      (0 : Int) ≤ b,
      (ckTwo s q n f a b != (0 : Int)) = false,
      (came == (3 : Int)) = false,
      decide (x > b) = false,
      (came == (2 : Int)) = false,
      decide (x > a) = false,
      s = s,
      q = q,
      n = n,
      f = f,
      IntKind.wrap IntKind.u64 (a - x) = a - x,
      IntKind.wrap IntKind.u64 (b - x) = b - x,
      (1 : Int) = (1 : Int)]) (by kernel_rfl) (.cons (by omega) (.cons (by omega) (.cons (by omega) (.cons (by omega) (.cons (by omega) (.cons (by omega) (.cons (by exact bne_eq_false_iff_eq.2 (by omega)) (.cons (by exact decide_eq_false (by omega)) (.cons (by exact decide_eq_false (by omega)) (.cons (by exact decide_eq_false (by omega)) (.cons (by exact decide_eq_false (by omega)) (.cons (by rfl) (.cons (by rfl) (.cons (by rfl) (.cons (by rfl) (.cons (by exact wU64 (by omega) (by omega)) (.cons (by exact wU64 (by omega) (by omega)) (.cons (by rfl) .nil))))))))))))))))))
end Go.Proofs.Ytlmeemilikladaa
